/- Field of package works at numbers. -/
import Derived.Test.YtbmfcedndbgpoaaGreatWorks8
import Derived.Test.YtbmfcedndbgpoaaGreatWorks6
namespace Go.Proofs.YtbmfcedndbgpoaaGreat
open Go.RowKit Go.Deep
set_option linter.unusedVariables false
def sumW (a b c e0 e1 e2 : Wd) : Wd := downW (moreW (mulqW a e0) [mulqW b e1, mulqW c e2]) 1
/-- The field as the quaternion turns it. -/
def fieldH (q0 q1 q2 q3 f0 f1 f2 : Wd) : Q4 := timesW (rateW q0 q1 q2 q3 f0 f1 f2).a (rateW q0 q1 q2 q3 f0 f1 f2).b (rateW q0 q1 q2 q3 f0 f1 f2).c (rateW q0 q1 q2 q3 f0 f1 f2).d q0 (negW q1) (negW q2) (negW q3)
def fieldB (q0 q1 q2 q3 f0 f1 f2 : Wd) : Wd := sqrtW (normW (fieldH q0 q1 q2 q3 f0 f1 f2).b [(fieldH q0 q1 q2 q3 f0 f1 f2).c])
def fieldZ (q0 q1 q2 q3 f0 f1 f2 : Wd) : Wd := (fieldH q0 q1 q2 q3 f0 f1 f2).d
def fieldE (q0 q1 q2 q3 f0 f1 f2 : Wd) : T3 := errorsW q0 q1 q2 q3 (fieldB q0 q1 q2 q3 f0 f1 f2) (fieldZ q0 q1 q2 q3 f0 f1 f2) f0 f1 f2
def fieldX (q0 q1 q2 q3 f0 f1 f2 : Wd) : Q4 := ⟨mulqW (fieldB q0 q1 q2 q3 f0 f1 f2) q0, mulqW (fieldB q0 q1 q2 q3 f0 f1 f2) q1, mulqW (fieldB q0 q1 q2 q3 f0 f1 f2) q2, mulqW (fieldB q0 q1 q2 q3 f0 f1 f2) q3⟩
def fieldY (q0 q1 q2 q3 f0 f1 f2 : Wd) : Q4 := ⟨mulqW (fieldZ q0 q1 q2 q3 f0 f1 f2) q0, mulqW (fieldZ q0 q1 q2 q3 f0 f1 f2) q1, mulqW (fieldZ q0 q1 q2 q3 f0 f1 f2) q2, mulqW (fieldZ q0 q1 q2 q3 f0 f1 f2) q3⟩
def fieldOf (x y : Q4) (e : T3) : Q4 :=
  ⟨sumW (negW y.c) (lessW y.b [x.d]) x.c e.a e.b e.c,
   sumW y.d (moreW x.c [y.a]) (lessW x.d [y.b, y.b]) e.a e.b e.c,
   sumW (negW (moreW x.c [x.c, y.a])) (moreW x.b [y.d]) (lessW x.a [y.c, y.c]) e.a e.b e.c,
   sumW (lessW y.b [x.d, x.d]) (lessW y.c [x.a]) x.b e.a e.b e.c⟩
def fieldW (q0 q1 q2 q3 f0 f1 f2 : Wd) : Q4 := fieldOf (fieldX q0 q1 q2 q3 f0 f1 f2) (fieldY q0 q1 q2 q3 f0 f1 f2) (fieldE q0 q1 q2 q3 f0 f1 f2)
set_option maxRecDepth 100000 in
set_option maxHeartbeats 4000000 in
theorem wfield1_calls (p : Addr) (gw gm ge : Nat) (pa pb pc e0 e1 e2 : Wd) (w : World) (cw : w.cell? ⟨gw, 0, none⟩ = some (.iface 74 (.pointer (some p)))) (cm : w.cell? ⟨gm, 0, none⟩ = some (.func (.func 92) #[.agg #[.iface 74 (.pointer (some p))]] #[])) (ce0 : w.cell? ⟨ge, 0, none⟩ = some (.int .i32 e0.v)) (ce1 : w.cell? ⟨ge, 1, none⟩ = some (.int .i32 e1.v)) (ce2 : w.cell? ⟨ge, 2, none⟩ = some (.int .i32 e2.v)) :
    Calls Tryz.prog 111 #[.int .i32 pa.v, .int .i32 pb.v, .int .i32 pc.v, .pointer (some ⟨gw, 0, none⟩), .pointer (some ⟨gm, 0, none⟩), .pointer (some ⟨ge, 0, none⟩)] w fun e w' => e = .returned (.int .i32 (sumW pa pb pc e0 e1 e2).v) ∧ Chg w w' [] := by
  have HC : Hid (Chg w w []) := hide (Chg.refl w [])
  have h1 := nil_const p
  have h2 := meth_const p
  go_enter Tryz.func111, Tryz.ntmps111
  go_wp2_with fail
  obtain ⟨CL, hCL⟩ : ∃ l : List (Addr × Value), l = [(⟨gw, 0, none⟩, .iface 74 (.pointer (some p))), (⟨gm, 0, none⟩, .func (.func 92) #[.agg #[.iface 74 (.pointer (some p))]] #[]), (⟨ge, 0, none⟩, .int .i32 (e0).v), (⟨ge, 1, none⟩, .int .i32 (e1).v), (⟨ge, 2, none⟩, .int .i32 (e2).v)] := ⟨_, rfl⟩
  have HS0 : Sd w [] CL w.drew := ⟨(Chg.refl w _).drew, by rw [hCL]; simp only [List.forall_mem_cons]; exact ⟨cw, cm, ce0, ce1, ce2, by simp⟩⟩
  have hU0 : ∀ p ∈ CL, p.1.block ∈ ([ge, gm, gw] : List Nat) := by rw [hCL]; simp only [List.forall_mem_cons]; exact ⟨by simp, by simp, by simp, by simp, by simp, by simp⟩
  have hlt0 : ∀ u ∈ ([ge, gm, gw] : List Nat), u < w.heap.size := by simp only [List.forall_mem_cons]; exact ⟨World.block_lt_of_cell? _ _ ce0, World.block_lt_of_cell? _ _ cm, World.block_lt_of_cell? _ _ cw, by simp⟩
  refine Reg.wp_region (Reg.of 21 _ _ [.agg #[.iface 74 (.pointer (some p))], .agg #[.iface 74 (.pointer (some p))], .func (.func 92) #[.agg #[.iface 74 (.pointer (some p))]] #[], .int .i32 (pa).v, .pointer (some ⟨ge, 0, none⟩), .int .i32 (e0).v, .int .i32 (mulqW (pa) (e0)).v, .func (.func 92) #[.agg #[.iface 74 (.pointer (some p))]] #[], .int .i32 (pb).v, .pointer (some ⟨ge, 1, none⟩), .int .i32 (e1).v, .int .i32 (mulqW (pb) (e1)).v, .func (.func 92) #[.agg #[.iface 74 (.pointer (some p))]] #[], .int .i32 (pc).v, .pointer (some ⟨ge, 2, none⟩), .int .i32 (e2).v, .int .i32 (mulqW (pc) (e2)).v, undef, .int .i32 (moreW (mulqW (pa) (e0)) [mulqW (pb) (e1), mulqW (pc) (e2)]).v, .int .i32 (downW (moreW (mulqW (pa) (e0)) [mulqW (pb) (e1), mulqW (pc) (e2)]) (1)).v, .int .i32 (downW (moreW (mulqW (pa) (e0)) [mulqW (pb) (e1), mulqW (pc) (e2)]) (1)).v] [fun _ => undef, fun _ => undef, fun _ => undef, fun _ => undef, fun _ => undef, fun _ => undef, fun _ => undef, fun _ => undef, fun _ => undef, fun _ => undef, fun _ => undef, fun _ => undef, fun _ => undef, fun _ => undef, fun _ => undef, fun _ => undef, fun _ => undef, fun g => .slice (some ⟨g, 0, none⟩) 2 2, fun _ => undef, fun _ => undef, fun _ => undef] [.val, .val, .val, .val, .val, .val, .val, .val, .val, .val, .val, .val, .val, .val, .val, .val, .val, .new 21 [.int .i32 (mulqW (pb) (e1)).v, .int .i32 (mulqW (pc) (e2)).v], .val, .val, .val] [] [] [] (fun _ => Sd w [] CL) (Fd w [] [ge, gm, gw])) (Reg.good_of _ 30 (by kernel_rfl) (by kernel_rfl)) (stands_d _ w [] [ge, gm, gw] CL rfl rfl rfl hU0 hlt0) (by kernel_rfl) HS0 (hold_of (by kernel_rfl) ?holdwz1) (ne_of (by kernel_rfl) ?hnewz1) (Reg.steps_of _ rfl ⟨?_, ?_, ?_, ?_, ?_, ?_, ?_, ?_, ?_, ?_, ?_, ?_, ?_, ?_, ?_, ?_, ?_, ?_, ?_, ?_, ?_, trivial⟩) ?hendwz1
  case holdwz1 =>
    intro k T c hk; simp at hk
  case hnewz1 => intro i j hi hj hne; exact absurd hi (by simp)
  case hendwz1 =>
    intro wz1 γ hSz hBz hnez hOz
    replace hSz : Sd w [] CL wz1 := hSz
    have nb17 : Blk wz1 (γ 17) 21 [.int .i32 (mulqW (pb) (e1)).v, .int .i32 (mulqW (pc) (e2)).v] := (hBz 17 21 [.int .i32 (mulqW (pb) (e1)).v, .int .i32 (mulqW (pc) (e2)).v] (by kernel_rfl) [.int .i32 (mulqW (pb) (e1)).v, .int .i32 (mulqW (pc) (e2)).v] (by kernel_rfl)).1
    have nf17 : Fd w [] [ge, gm, gw] wz1 (γ 17) := (hBz 17 21 [.int .i32 (mulqW (pb) (e1)).v, .int .i32 (mulqW (pc) (e2)).v] (by kernel_rfl) [.int .i32 (mulqW (pb) (e1)).v, .int .i32 (mulqW (pc) (e2)).v] (by kernel_rfl)).2.1
    refine end_of [(9, .int .i32 (downW (moreW (mulqW (pa) (e0)) [mulqW (pb) (e1), mulqW (pc) (e2)]) (1)).v), (10, .agg #[.iface 74 (.pointer (some p))]), (11, .agg #[.iface 74 (.pointer (some p))]), (12, .func (.func 92) #[.agg #[.iface 74 (.pointer (some p))]] #[]), (13, .int .i32 (pa).v), (14, .pointer (some ⟨ge, 0, none⟩)), (15, .int .i32 (e0).v), (16, .int .i32 (mulqW (pa) (e0)).v), (17, .func (.func 92) #[.agg #[.iface 74 (.pointer (some p))]] #[]), (18, .int .i32 (pb).v), (19, .pointer (some ⟨ge, 1, none⟩)), (20, .int .i32 (e1).v), (21, .int .i32 (mulqW (pb) (e1)).v), (22, .func (.func 92) #[.agg #[.iface 74 (.pointer (some p))]] #[]), (23, .int .i32 (pc).v), (24, .pointer (some ⟨ge, 2, none⟩)), (25, .int .i32 (e2).v), (26, .int .i32 (mulqW (pc) (e2)).v), (27, .slice (some ⟨γ 17, 0, none⟩) 2 2), (28, .int .i32 (moreW (mulqW (pa) (e0)) [mulqW (pb) (e1), mulqW (pc) (e2)]).v), (29, .int .i32 (downW (moreW (mulqW (pa) (e0)) [mulqW (pb) (e1), mulqW (pc) (e2)]) (1)).v)] (by kernel_rfl) ?_
    clear hBz hnez hOz HS0 hU0
    simp only [Reg.of, List.foldl_cons, List.foldl_nil, List.setIfInBounds_toArray, List.set_cons_zero, List.set_cons_succ]
    generalize γ 17 = b17 at *
    have HC1 := hide (HC.out.trans hSz.chg (D := []) (by simp; try omega))
    have y1_0 : wz1.cell? ⟨gw, 0, none⟩ = some (.iface 74 (.pointer (some p))) := hSz.at_ 0 _ _ (by rw [hCL]; rfl)
    have y1_1 : wz1.cell? ⟨gm, 0, none⟩ = some (.func (.func 92) #[.agg #[.iface 74 (.pointer (some p))]] #[]) := hSz.at_ 1 _ _ (by rw [hCL]; rfl)
    have y1_2 : wz1.cell? ⟨ge, 0, none⟩ = some (.int .i32 (e0).v) := hSz.at_ 2 _ _ (by rw [hCL]; rfl)
    have y1_3 : wz1.cell? ⟨ge, 1, none⟩ = some (.int .i32 (e1).v) := hSz.at_ 3 _ _ (by rw [hCL]; rfl)
    have y1_4 : wz1.cell? ⟨ge, 2, none⟩ = some (.int .i32 (e2).v) := hSz.at_ 4 _ _ (by rw [hCL]; rfl)
    clear hSz hCL hlt0 CL cw cm ce0 ce1 ce2 HC 
    clear nb17 nf17
    go_wp2
    go_ret
    exact ⟨rfl, HC1.out⟩
  · intro a wu γ nph K hp hK
    obtain ⟨e3a, e3b⟩ := hp.old_ 3 (.pointer (some ⟨gw, 0, none⟩))
    have hS : Sd w [] CL wu := hp.S
    have c0 := hS.at_ 0 ⟨gw, 0, none⟩ (.iface 74 (.pointer (some p))) (by rw [hCL]; rfl)
    have hk := hK.pure (.agg #[.iface 74 (.pointer (some p))]) hp.S
    clear hp hK hS
    go_simp
    exact hk
  · intro a wu γ nph K hp hK
    obtain ⟨e3a, e3b⟩ := hp.old_ 3 (.pointer (some ⟨gw, 0, none⟩))
    have hS : Sd w [] CL wu := hp.S
    have c0 := hS.at_ 0 ⟨gw, 0, none⟩ (.iface 74 (.pointer (some p))) (by rw [hCL]; rfl)
    have hk := hK.pure (.agg #[.iface 74 (.pointer (some p))]) hp.S
    clear hp hK hS
    go_simp
    exact hk
  · intro a wu γ nph K hp hK
    obtain ⟨e4a, e4b⟩ := hp.old_ 4 (.pointer (some ⟨gm, 0, none⟩))
    have hS : Sd w [] CL wu := hp.S
    have c1 := hS.at_ 1 ⟨gm, 0, none⟩ (.func (.func 92) #[.agg #[.iface 74 (.pointer (some p))]] #[]) (by rw [hCL]; rfl)
    have hk := hK.pure (.func (.func 92) #[.agg #[.iface 74 (.pointer (some p))]] #[]) hp.S
    clear hp hK hS
    go_simp
    exact hk
  · intro a wu γ nph K hp hK
    obtain ⟨e0a, e0b⟩ := hp.old_ 0 (.int .i32 (pa).v)
    have hk := hK.pure (.int .i32 (pa).v) hp.S
    clear hp hK
    go_simp
    exact hk
  · intro a wu γ nph K hp hK
    obtain ⟨e5a, e5b⟩ := hp.old_ 5 (.pointer (some ⟨ge, 0, none⟩))
    have hk := hK.pure (.pointer (some ⟨ge, 0, none⟩)) hp.S
    clear hp hK
    go_simp
    exact hk
  · intro a wu γ nph K hp hK
    obtain ⟨e14a, e14b⟩ := hp.dep_ 14 4 (.pointer (some ⟨ge, 0, none⟩))
    have hS : Sd w [] CL wu := hp.S
    have c2 := hS.at_ 2 ⟨ge, 0, none⟩ (.int .i32 (e0).v) (by rw [hCL]; rfl)
    have hk := hK.pure (.int .i32 (e0).v) hp.S
    clear hp hK hS
    go_simp
    exact hk
  · intro a wu γ nph K hp hK
    obtain ⟨e12a, e12b⟩ := hp.dep_ 12 2 (.func (.func 92) #[.agg #[.iface 74 (.pointer (some p))]] #[])
    obtain ⟨e13a, e13b⟩ := hp.dep_ 13 3 (.int .i32 (pa).v)
    obtain ⟨e15a, e15b⟩ := hp.dep_ 15 5 (.int .i32 (e0).v)
    have hS : Sd w [] CL wu := hp.S
    have hk := hK.call (.int .i32 (mulqW (pa) (e0)).v)
    clear hp hK
    go_simp
    refine (w_mulq p _ _ _).mono ?_
    rintro e w7 ⟨rfl, hcX⟩
    exact hk _ (hS.call hcX) (Reg.keep_call _ rfl hcX)
  · intro a wu γ nph K hp hK
    obtain ⟨e4a, e4b⟩ := hp.old_ 4 (.pointer (some ⟨gm, 0, none⟩))
    have hS : Sd w [] CL wu := hp.S
    have c1 := hS.at_ 1 ⟨gm, 0, none⟩ (.func (.func 92) #[.agg #[.iface 74 (.pointer (some p))]] #[]) (by rw [hCL]; rfl)
    have hk := hK.pure (.func (.func 92) #[.agg #[.iface 74 (.pointer (some p))]] #[]) hp.S
    clear hp hK hS
    go_simp
    exact hk
  · intro a wu γ nph K hp hK
    obtain ⟨e1a, e1b⟩ := hp.old_ 1 (.int .i32 (pb).v)
    have hk := hK.pure (.int .i32 (pb).v) hp.S
    clear hp hK
    go_simp
    exact hk
  · intro a wu γ nph K hp hK
    obtain ⟨e5a, e5b⟩ := hp.old_ 5 (.pointer (some ⟨ge, 0, none⟩))
    have hk := hK.pure (.pointer (some ⟨ge, 1, none⟩)) hp.S
    clear hp hK
    go_simp
    exact hk
  · intro a wu γ nph K hp hK
    obtain ⟨e19a, e19b⟩ := hp.dep_ 19 9 (.pointer (some ⟨ge, 1, none⟩))
    have hS : Sd w [] CL wu := hp.S
    have c3 := hS.at_ 3 ⟨ge, 1, none⟩ (.int .i32 (e1).v) (by rw [hCL]; rfl)
    have hk := hK.pure (.int .i32 (e1).v) hp.S
    clear hp hK hS
    go_simp
    exact hk
  · intro a wu γ nph K hp hK
    obtain ⟨e17a, e17b⟩ := hp.dep_ 17 7 (.func (.func 92) #[.agg #[.iface 74 (.pointer (some p))]] #[])
    obtain ⟨e18a, e18b⟩ := hp.dep_ 18 8 (.int .i32 (pb).v)
    obtain ⟨e20a, e20b⟩ := hp.dep_ 20 10 (.int .i32 (e1).v)
    have hS : Sd w [] CL wu := hp.S
    have hk := hK.call (.int .i32 (mulqW (pb) (e1)).v)
    clear hp hK
    go_simp
    refine (w_mulq p _ _ _).mono ?_
    rintro e w7 ⟨rfl, hcX⟩
    exact hk _ (hS.call hcX) (Reg.keep_call _ rfl hcX)
  · intro a wu γ nph K hp hK
    obtain ⟨e4a, e4b⟩ := hp.old_ 4 (.pointer (some ⟨gm, 0, none⟩))
    have hS : Sd w [] CL wu := hp.S
    have c1 := hS.at_ 1 ⟨gm, 0, none⟩ (.func (.func 92) #[.agg #[.iface 74 (.pointer (some p))]] #[]) (by rw [hCL]; rfl)
    have hk := hK.pure (.func (.func 92) #[.agg #[.iface 74 (.pointer (some p))]] #[]) hp.S
    clear hp hK hS
    go_simp
    exact hk
  · intro a wu γ nph K hp hK
    obtain ⟨e2a, e2b⟩ := hp.old_ 2 (.int .i32 (pc).v)
    have hk := hK.pure (.int .i32 (pc).v) hp.S
    clear hp hK
    go_simp
    exact hk
  · intro a wu γ nph K hp hK
    obtain ⟨e5a, e5b⟩ := hp.old_ 5 (.pointer (some ⟨ge, 0, none⟩))
    have hk := hK.pure (.pointer (some ⟨ge, 2, none⟩)) hp.S
    clear hp hK
    go_simp
    exact hk
  · intro a wu γ nph K hp hK
    obtain ⟨e24a, e24b⟩ := hp.dep_ 24 14 (.pointer (some ⟨ge, 2, none⟩))
    have hS : Sd w [] CL wu := hp.S
    have c4 := hS.at_ 4 ⟨ge, 2, none⟩ (.int .i32 (e2).v) (by rw [hCL]; rfl)
    have hk := hK.pure (.int .i32 (e2).v) hp.S
    clear hp hK hS
    go_simp
    exact hk
  · intro a wu γ nph K hp hK
    obtain ⟨e22a, e22b⟩ := hp.dep_ 22 12 (.func (.func 92) #[.agg #[.iface 74 (.pointer (some p))]] #[])
    obtain ⟨e23a, e23b⟩ := hp.dep_ 23 13 (.int .i32 (pc).v)
    obtain ⟨e25a, e25b⟩ := hp.dep_ 25 15 (.int .i32 (e2).v)
    have hS : Sd w [] CL wu := hp.S
    have hk := hK.call (.int .i32 (mulqW (pc) (e2)).v)
    clear hp hK
    go_simp
    refine (w_mulq p _ _ _).mono ?_
    rintro e w7 ⟨rfl, hcX⟩
    exact hk _ (hS.call hcX) (Reg.keep_call _ rfl hcX)
  · intro a wu γ nph K hp hK
    obtain ⟨e21a, e21b⟩ := hp.dep_ 21 11 (.int .i32 (mulqW (pb) (e1)).v)
    obtain ⟨e26a, e26b⟩ := hp.dep_ 26 16 (.int .i32 (mulqW (pc) (e2)).v)
    have hk := hK.new 21 [.int .i32 (mulqW (pb) (e1)).v, .int .i32 (mulqW (pc) (e2)).v] (fun g => .slice (some ⟨g, 0, none⟩) 2 2)
    clear hp hK
    go_simp
    exact hk
  · intro a wu γ nph K hp hK
    obtain ⟨e11a, e11b⟩ := hp.dep_ 11 1 (.agg #[.iface 74 (.pointer (some p))])
    obtain ⟨e16a, e16b⟩ := hp.dep_ 16 6 (.int .i32 (mulqW (pa) (e0)).v)
    obtain ⟨e27a, e27b⟩ := hp.dep_ 27 17 (.slice (some ⟨γ 17, 0, none⟩) 2 2)
    have hS : Sd w [] CL wu := hp.S
    have nb17 : Blk wu (γ 17) 21 [.int .i32 (mulqW (pb) (e1)).v, .int .i32 (mulqW (pc) (e2)).v] := (hp.blk_ 17 (T := 21) (c := [.int .i32 (mulqW (pb) (e1)).v, .int .i32 (mulqW (pc) (e2)).v])).1
    have hk := hK.call (.int .i32 (moreW (mulqW (pa) (e0)) [mulqW (pb) (e1), mulqW (pc) (e2)]).v)
    clear hp hK
    go_simp
    refine (wmore_calls p _ [mulqW (pb) (e1), mulqW (pc) (e2)] _ _ (Sl.blk' (show Blk wu (γ 17) 21 (wds [mulqW (pb) (e1), mulqW (pc) (e2)]) from nb17) rfl (Nat.le_refl _)) (by simp)).mono ?_
    rintro e w7 ⟨rfl, hcX⟩
    exact hk _ (hS.call hcX) (Reg.keep_call _ rfl hcX)
  · intro a wu γ nph K hp hK
    obtain ⟨e10a, e10b⟩ := hp.dep_ 10 0 (.agg #[.iface 74 (.pointer (some p))])
    obtain ⟨e28a, e28b⟩ := hp.dep_ 28 18 (.int .i32 (moreW (mulqW (pa) (e0)) [mulqW (pb) (e1), mulqW (pc) (e2)]).v)
    have hS : Sd w [] CL wu := hp.S
    have hk := hK.call (.int .i32 (downW (moreW (mulqW (pa) (e0)) [mulqW (pb) (e1), mulqW (pc) (e2)]) (1)).v)
    clear hp hK
    go_simp
    refine (w_down p _ _ _ (by decide)).mono ?_
    rintro e w7 ⟨rfl, hcX⟩
    exact hk _ (hS.call hcX) (Reg.keep_call _ rfl hcX)
  · intro a wu γ nph K hp hK
    obtain ⟨e29a, e29b⟩ := hp.dep_ 29 19 (.int .i32 (downW (moreW (mulqW (pa) (e0)) [mulqW (pb) (e1), mulqW (pc) (e2)]) (1)).v)
    have hk := hK.pure (.int .i32 (downW (moreW (mulqW (pa) (e0)) [mulqW (pb) (e1), mulqW (pc) (e2)]) (1)).v) hp.S
    clear hp hK
    go_simp
    exact hk
set_option maxRecDepth 100000 in
set_option maxHeartbeats 2000000 in
theorem wfield2_calls (p : Addr) (gw : Nat) (a : Wd) (w : World) (cw : w.cell? ⟨gw, 0, none⟩ = some (.iface 74 (.pointer (some p)))) :
    Calls Tryz.prog 112 #[.int .i32 a.v, .pointer (some ⟨gw, 0, none⟩)] w fun e w' => e = .returned (.int .i32 (negW a).v) ∧ Chg w w' [] := by
  go_enter Tryz.func112, Tryz.ntmps112
  go_wp2_with fail
  refine (w_neg _ _ _).mono ?_
  rintro e w1 ⟨rfl, hc⟩
  have HC := hide hc
  clear hc
  go_wp2
  go_ret
  exact ⟨rfl, HC.out⟩
set_option maxRecDepth 100000 in
set_option maxHeartbeats 16000000 in
theorem wfield_calls (b : Nat) (q0 q1 q2 q3 f0 f1 f2 : Wd) (n : Nat) (w : World) (hn : n ≤ 900) (hpl : PlR w b (most n)) :
    Calls Tryz.prog 66 #[.agg #[.iface 74 (.pointer (some ⟨b, 0, none⟩))], .agg #[.int .i32 q0.v, .int .i32 q1.v, .int .i32 q2.v, .int .i32 q3.v], .agg #[.int .i32 f0.v, .int .i32 f1.v, .int .i32 f2.v]] w fun e w' => e = .returned (.agg #[.int .i32 (fieldW q0 q1 q2 q3 f0 f1 f2).a.v, .int .i32 (fieldW q0 q1 q2 q3 f0 f1 f2).b.v, .int .i32 (fieldW q0 q1 q2 q3 f0 f1 f2).c.v, .int .i32 (fieldW q0 q1 q2 q3 f0 f1 f2).d.v]) ∧ PlR w' b (most (n + 1)) ∧ Turn w b w' := by
  have k0 := Blk.new w 52 [.iface 74 (.pointer (some ⟨b, 0, none⟩))]
  have m0 := ((((k0.alloc (.cells #[.int .i32 q0.v, .int .i32 q1.v, .int .i32 q2.v, .int .i32 q3.v] 27)).alloc (.cells #[.int .i32 f0.v, .int .i32 f1.v, .int .i32 f2.v] 22)).alloc (.cells #[.int .i32 0, .int .i32 0, .int .i32 0, .int .i32 0] 27)).alloc (.cells #[.func (.func 92) #[.agg #[.iface 74 (.pointer (some ⟨b, 0, none⟩))]] #[]] 35))
  have g0_0 := m0.cell' (i := 0) rfl
  have k1 := Blk.new (w.alloc (.cells #[.iface 74 (.pointer (some ⟨b, 0, none⟩))] 52)) 27 [.int .i32 q0.v, .int .i32 q1.v, .int .i32 q2.v, .int .i32 q3.v]
  have m1 := (((k1.alloc (.cells #[.int .i32 f0.v, .int .i32 f1.v, .int .i32 f2.v] 22)).alloc (.cells #[.int .i32 0, .int .i32 0, .int .i32 0, .int .i32 0] 27)).alloc (.cells #[.func (.func 92) #[.agg #[.iface 74 (.pointer (some ⟨b, 0, none⟩))]] #[]] 35))
  simp only [size_alloc] at m1
  have g1_0 := m1.cell' (i := 0) rfl
  have g1_1 := m1.cell' (i := 1) rfl
  have g1_2 := m1.cell' (i := 2) rfl
  have g1_3 := m1.cell' (i := 3) rfl
  have k2 := Blk.new ((w.alloc (.cells #[.iface 74 (.pointer (some ⟨b, 0, none⟩))] 52)).alloc (.cells #[.int .i32 q0.v, .int .i32 q1.v, .int .i32 q2.v, .int .i32 q3.v] 27)) 22 [.int .i32 f0.v, .int .i32 f1.v, .int .i32 f2.v]
  have m2 := ((k2.alloc (.cells #[.int .i32 0, .int .i32 0, .int .i32 0, .int .i32 0] 27)).alloc (.cells #[.func (.func 92) #[.agg #[.iface 74 (.pointer (some ⟨b, 0, none⟩))]] #[]] 35))
  simp only [size_alloc] at m2
  have g2_0 := m2.cell' (i := 0) rfl
  have g2_1 := m2.cell' (i := 1) rfl
  have g2_2 := m2.cell' (i := 2) rfl
  have k3 := Blk.new (((w.alloc (.cells #[.iface 74 (.pointer (some ⟨b, 0, none⟩))] 52)).alloc (.cells #[.int .i32 q0.v, .int .i32 q1.v, .int .i32 q2.v, .int .i32 q3.v] 27)).alloc (.cells #[.int .i32 f0.v, .int .i32 f1.v, .int .i32 f2.v] 22)) 27 [.int .i32 0, .int .i32 0, .int .i32 0, .int .i32 0]
  have m3 := (k3.alloc (.cells #[.func (.func 92) #[.agg #[.iface 74 (.pointer (some ⟨b, 0, none⟩))]] #[]] 35))
  simp only [size_alloc] at m3
  have k4 := Blk.new ((((w.alloc (.cells #[.iface 74 (.pointer (some ⟨b, 0, none⟩))] 52)).alloc (.cells #[.int .i32 q0.v, .int .i32 q1.v, .int .i32 q2.v, .int .i32 q3.v] 27)).alloc (.cells #[.int .i32 f0.v, .int .i32 f1.v, .int .i32 f2.v] 22)).alloc (.cells #[.int .i32 0, .int .i32 0, .int .i32 0, .int .i32 0] 27)) 35 [.func (.func 92) #[.agg #[.iface 74 (.pointer (some ⟨b, 0, none⟩))]] #[]]
  have m4 := k4
  simp only [size_alloc] at m4
  have g4_0 := m4.cell' (i := 0) rfl
  have HC := hide ((((((Chg.refl w []).alloc (.cells #[.iface 74 (.pointer (some ⟨b, 0, none⟩))] 52)).alloc (.cells #[.int .i32 q0.v, .int .i32 q1.v, .int .i32 q2.v, .int .i32 q3.v] 27)).alloc (.cells #[.int .i32 f0.v, .int .i32 f1.v, .int .i32 f2.v] 22)).alloc (.cells #[.int .i32 0, .int .i32 0, .int .i32 0, .int .i32 0] 27)).alloc (.cells #[.func (.func 92) #[.agg #[.iface 74 (.pointer (some ⟨b, 0, none⟩))]] #[]] 35))
  clear k0 k1 k2 k3 k4
  have h1 := nil_const ⟨b, 0, none⟩
  have h2 := meth_const ⟨b, 0, none⟩
  have HT0 : Hid (Turn w b (((((w.alloc (.cells #[.iface 74 (.pointer (some ⟨b, 0, none⟩))] 52)).alloc (.cells #[.int .i32 q0.v, .int .i32 q1.v, .int .i32 q2.v, .int .i32 q3.v] 27)).alloc (.cells #[.int .i32 f0.v, .int .i32 f1.v, .int .i32 f2.v] 22)).alloc (.cells #[.int .i32 0, .int .i32 0, .int .i32 0, .int .i32 0] 27)).alloc (.cells #[.func (.func 92) #[.agg #[.iface 74 (.pointer (some ⟨b, 0, none⟩))]] #[]] 35))) := hide (Turn.call hpl HC.out)
  have hfar := far_of hpl HC.out
  have fb0 := hfar (w.heap.size) (by omega)
  have fb1 := hfar (w.heap.size + 1) (by omega)
  have fb2 := hfar (w.heap.size + 1 + 1) (by omega)
  have fb3 := hfar (w.heap.size + 1 + 1 + 1) (by omega)
  have fb4 := hfar (w.heap.size + 1 + 1 + 1 + 1) (by omega)
  have lb3 := m3.lt
  have hp6 := hpl.chg HC.out (by simp)
  clear hfar HC m0 m1 m2 m4
  go_enter Tryz.func66, Tryz.ntmps66
  go_wp2_with fail
  generalize (((((w.alloc (.cells #[.iface 74 (.pointer (some ⟨b, 0, none⟩))] 52)).alloc (.cells #[.int .i32 q0.v, .int .i32 q1.v, .int .i32 q2.v, .int .i32 q3.v] 27)).alloc (.cells #[.int .i32 f0.v, .int .i32 f1.v, .int .i32 f2.v] 22)).alloc (.cells #[.int .i32 0, .int .i32 0, .int .i32 0, .int .i32 0] 27)).alloc (.cells #[.func (.func 92) #[.agg #[.iface 74 (.pointer (some ⟨b, 0, none⟩))]] #[]] 35)) = w6 at *
  obtain ⟨CL, hCL⟩ : ∃ l : List (Addr × Value), l = [(⟨w.heap.size, 0, none⟩, .iface 74 (.pointer (some ⟨b, 0, none⟩))), (⟨w.heap.size + 1, 0, none⟩, .int .i32 (q0).v), (⟨w.heap.size + 1, 1, none⟩, .int .i32 (q1).v), (⟨w.heap.size + 1, 2, none⟩, .int .i32 (q2).v), (⟨w.heap.size + 1, 3, none⟩, .int .i32 (q3).v), (⟨w.heap.size + 1 + 1, 0, none⟩, .int .i32 (f0).v), (⟨w.heap.size + 1 + 1, 1, none⟩, .int .i32 (f1).v), (⟨w.heap.size + 1 + 1, 2, none⟩, .int .i32 (f2).v), (⟨w.heap.size + 1 + 1 + 1 + 1, 0, none⟩, .func (.func 92) #[.agg #[.iface 74 (.pointer (some ⟨b, 0, none⟩))]] #[])] := ⟨_, rfl⟩
  have HS0 : Sp w6 b (fun _ => (most n)) [w.heap.size + 1 + 1 + 1] CL 0 w6.drew := Sp.start hp6 (by rw [hCL]; simp only [List.forall_mem_cons]; exact ⟨g0_0, g1_0, g1_1, g1_2, g1_3, g2_0, g2_1, g2_2, g4_0, by simp⟩)
  have hap : Apart w6 b [w.heap.size + 1 + 1 + 1] [w.heap.size, w.heap.size + 1, w.heap.size + 1 + 1, w.heap.size + 1 + 1 + 1 + 1] CL := ⟨by rw [hCL]; simp only [List.forall_mem_cons]; exact ⟨by simp, by simp, by simp, by simp, by simp, by simp, by simp, by simp, by simp, by simp⟩, by simp only [List.forall_mem_cons]; exact ⟨World.block_lt_of_cell? _ _ g0_0, World.block_lt_of_cell? _ _ g1_0, World.block_lt_of_cell? _ _ g2_0, World.block_lt_of_cell? _ _ g4_0, by simp⟩, by simp only [List.forall_mem_cons]; exact ⟨fb0, fb1, fb2, fb4, by simp⟩, by simp only [List.forall_mem_cons]; exact ⟨⟨lb3, fb3⟩, by simp⟩⟩
  refine Reg.wp_region (Reg.of 11 _ _ [.agg #[.iface 74 (.pointer (some ⟨b, 0, none⟩))], .agg #[.iface 74 (.pointer (some ⟨b, 0, none⟩))], .agg #[.int .i32 (q0).v, .int .i32 (q1).v, .int .i32 (q2).v, .int .i32 (q3).v], .agg #[.int .i32 (f0).v, .int .i32 (f1).v, .int .i32 (f2).v], .agg #[.int .i32 ((rateW (q0) (q1) (q2) (q3) (f0) (f1) (f2)).a).v, .int .i32 ((rateW (q0) (q1) (q2) (q3) (f0) (f1) (f2)).b).v, .int .i32 ((rateW (q0) (q1) (q2) (q3) (f0) (f1) (f2)).c).v, .int .i32 ((rateW (q0) (q1) (q2) (q3) (f0) (f1) (f2)).d).v], .agg #[.iface 74 (.pointer (some ⟨b, 0, none⟩))], .agg #[.int .i32 (q0).v, .int .i32 (q1).v, .int .i32 (q2).v, .int .i32 (q3).v], .agg #[.int .i32 (q0).v, .int .i32 (negW (q1)).v, .int .i32 (negW (q2)).v, .int .i32 (negW (q3)).v], .agg #[.int .i32 ((timesW ((rateW (q0) (q1) (q2) (q3) (f0) (f1) (f2)).a) ((rateW (q0) (q1) (q2) (q3) (f0) (f1) (f2)).b) ((rateW (q0) (q1) (q2) (q3) (f0) (f1) (f2)).c) ((rateW (q0) (q1) (q2) (q3) (f0) (f1) (f2)).d) (q0) (negW (q1)) (negW (q2)) (negW (q3))).a).v, .int .i32 ((timesW ((rateW (q0) (q1) (q2) (q3) (f0) (f1) (f2)).a) ((rateW (q0) (q1) (q2) (q3) (f0) (f1) (f2)).b) ((rateW (q0) (q1) (q2) (q3) (f0) (f1) (f2)).c) ((rateW (q0) (q1) (q2) (q3) (f0) (f1) (f2)).d) (q0) (negW (q1)) (negW (q2)) (negW (q3))).b).v, .int .i32 ((timesW ((rateW (q0) (q1) (q2) (q3) (f0) (f1) (f2)).a) ((rateW (q0) (q1) (q2) (q3) (f0) (f1) (f2)).b) ((rateW (q0) (q1) (q2) (q3) (f0) (f1) (f2)).c) ((rateW (q0) (q1) (q2) (q3) (f0) (f1) (f2)).d) (q0) (negW (q1)) (negW (q2)) (negW (q3))).c).v, .int .i32 ((timesW ((rateW (q0) (q1) (q2) (q3) (f0) (f1) (f2)).a) ((rateW (q0) (q1) (q2) (q3) (f0) (f1) (f2)).b) ((rateW (q0) (q1) (q2) (q3) (f0) (f1) (f2)).c) ((rateW (q0) (q1) (q2) (q3) (f0) (f1) (f2)).d) (q0) (negW (q1)) (negW (q2)) (negW (q3))).d).v], undef, undef] [fun _ => undef, fun _ => undef, fun _ => undef, fun _ => undef, fun _ => undef, fun _ => undef, fun _ => undef, fun _ => undef, fun _ => undef, fun g => .pointer (some ⟨g, 0, none⟩), fun _ => undef] [.val, .val, .val, .val, .val, .val, .val, .val, .val, .new 27 [.int .i32 0, .int .i32 0, .int .i32 0, .int .i32 0], .put 9 [.int .i32 ((timesW ((rateW (q0) (q1) (q2) (q3) (f0) (f1) (f2)).a) ((rateW (q0) (q1) (q2) (q3) (f0) (f1) (f2)).b) ((rateW (q0) (q1) (q2) (q3) (f0) (f1) (f2)).c) ((rateW (q0) (q1) (q2) (q3) (f0) (f1) (f2)).d) (q0) (negW (q1)) (negW (q2)) (negW (q3))).a).v, .int .i32 ((timesW ((rateW (q0) (q1) (q2) (q3) (f0) (f1) (f2)).a) ((rateW (q0) (q1) (q2) (q3) (f0) (f1) (f2)).b) ((rateW (q0) (q1) (q2) (q3) (f0) (f1) (f2)).c) ((rateW (q0) (q1) (q2) (q3) (f0) (f1) (f2)).d) (q0) (negW (q1)) (negW (q2)) (negW (q3))).b).v, .int .i32 ((timesW ((rateW (q0) (q1) (q2) (q3) (f0) (f1) (f2)).a) ((rateW (q0) (q1) (q2) (q3) (f0) (f1) (f2)).b) ((rateW (q0) (q1) (q2) (q3) (f0) (f1) (f2)).c) ((rateW (q0) (q1) (q2) (q3) (f0) (f1) (f2)).d) (q0) (negW (q1)) (negW (q2)) (negW (q3))).c).v, .int .i32 ((timesW ((rateW (q0) (q1) (q2) (q3) (f0) (f1) (f2)).a) ((rateW (q0) (q1) (q2) (q3) (f0) (f1) (f2)).b) ((rateW (q0) (q1) (q2) (q3) (f0) (f1) (f2)).c) ((rateW (q0) (q1) (q2) (q3) (f0) (f1) (f2)).d) (q0) (negW (q1)) (negW (q2)) (negW (q3))).d).v]] [(27, [.int .i32 0, .int .i32 0, .int .i32 0, .int .i32 0])] [w.heap.size + 1 + 1 + 1] [] (Sp w6 b (fun _ => (most n)) [w.heap.size + 1 + 1 + 1] CL) (Fp w6 b [w.heap.size + 1 + 1 + 1] [w.heap.size, w.heap.size + 1, w.heap.size + 1 + 1, w.heap.size + 1 + 1 + 1 + 1])) (Reg.good_of _ 139 (by kernel_rfl) (by kernel_rfl)) (stands_p _ hap rfl rfl rfl) (by kernel_rfl) HS0 (hold_of (by kernel_rfl) ?holdwz1) (ne_of (by kernel_rfl) ?hnewz1) (Reg.steps_of _ rfl ⟨?_, ?_, ?_, ?_, ?_, ?_, ?_, ?_, ?_, ?_, ?_, trivial⟩) ?hendwz1
  case holdwz1 =>
    intro k T c hk
    cases k with
    | zero => simp only [List.getElem?_cons_zero, Option.some.injEq, Prod.mk.injEq] at hk; obtain ⟨rfl, rfl⟩ := hk; exact ⟨m3, ⟨by simp; try omega, fb3, .inl (by simp)⟩⟩
    | succ k =>
      simp at hk
  case hnewz1 => intro i j hi hj hne; simp at hi hj; omega
  case hendwz1 =>
    intro wz1 γ hSz hBz hnez hOz
    replace hSz : Sp w6 b (fun _ => (most n)) [w.heap.size + 1 + 1 + 1] CL 0 wz1 := hSz
    have nb9 : Blk wz1 (γ 9) 27 [.int .i32 ((timesW ((rateW (q0) (q1) (q2) (q3) (f0) (f1) (f2)).a) ((rateW (q0) (q1) (q2) (q3) (f0) (f1) (f2)).b) ((rateW (q0) (q1) (q2) (q3) (f0) (f1) (f2)).c) ((rateW (q0) (q1) (q2) (q3) (f0) (f1) (f2)).d) (q0) (negW (q1)) (negW (q2)) (negW (q3))).a).v, .int .i32 ((timesW ((rateW (q0) (q1) (q2) (q3) (f0) (f1) (f2)).a) ((rateW (q0) (q1) (q2) (q3) (f0) (f1) (f2)).b) ((rateW (q0) (q1) (q2) (q3) (f0) (f1) (f2)).c) ((rateW (q0) (q1) (q2) (q3) (f0) (f1) (f2)).d) (q0) (negW (q1)) (negW (q2)) (negW (q3))).b).v, .int .i32 ((timesW ((rateW (q0) (q1) (q2) (q3) (f0) (f1) (f2)).a) ((rateW (q0) (q1) (q2) (q3) (f0) (f1) (f2)).b) ((rateW (q0) (q1) (q2) (q3) (f0) (f1) (f2)).c) ((rateW (q0) (q1) (q2) (q3) (f0) (f1) (f2)).d) (q0) (negW (q1)) (negW (q2)) (negW (q3))).c).v, .int .i32 ((timesW ((rateW (q0) (q1) (q2) (q3) (f0) (f1) (f2)).a) ((rateW (q0) (q1) (q2) (q3) (f0) (f1) (f2)).b) ((rateW (q0) (q1) (q2) (q3) (f0) (f1) (f2)).c) ((rateW (q0) (q1) (q2) (q3) (f0) (f1) (f2)).d) (q0) (negW (q1)) (negW (q2)) (negW (q3))).d).v] := (hBz 9 27 [.int .i32 0, .int .i32 0, .int .i32 0, .int .i32 0] (by kernel_rfl) [.int .i32 ((timesW ((rateW (q0) (q1) (q2) (q3) (f0) (f1) (f2)).a) ((rateW (q0) (q1) (q2) (q3) (f0) (f1) (f2)).b) ((rateW (q0) (q1) (q2) (q3) (f0) (f1) (f2)).c) ((rateW (q0) (q1) (q2) (q3) (f0) (f1) (f2)).d) (q0) (negW (q1)) (negW (q2)) (negW (q3))).a).v, .int .i32 ((timesW ((rateW (q0) (q1) (q2) (q3) (f0) (f1) (f2)).a) ((rateW (q0) (q1) (q2) (q3) (f0) (f1) (f2)).b) ((rateW (q0) (q1) (q2) (q3) (f0) (f1) (f2)).c) ((rateW (q0) (q1) (q2) (q3) (f0) (f1) (f2)).d) (q0) (negW (q1)) (negW (q2)) (negW (q3))).b).v, .int .i32 ((timesW ((rateW (q0) (q1) (q2) (q3) (f0) (f1) (f2)).a) ((rateW (q0) (q1) (q2) (q3) (f0) (f1) (f2)).b) ((rateW (q0) (q1) (q2) (q3) (f0) (f1) (f2)).c) ((rateW (q0) (q1) (q2) (q3) (f0) (f1) (f2)).d) (q0) (negW (q1)) (negW (q2)) (negW (q3))).c).v, .int .i32 ((timesW ((rateW (q0) (q1) (q2) (q3) (f0) (f1) (f2)).a) ((rateW (q0) (q1) (q2) (q3) (f0) (f1) (f2)).b) ((rateW (q0) (q1) (q2) (q3) (f0) (f1) (f2)).c) ((rateW (q0) (q1) (q2) (q3) (f0) (f1) (f2)).d) (q0) (negW (q1)) (negW (q2)) (negW (q3))).d).v] (by kernel_rfl)).1
    have nf9 : Fp w6 b [w.heap.size + 1 + 1 + 1] [w.heap.size, w.heap.size + 1, w.heap.size + 1 + 1, w.heap.size + 1 + 1 + 1 + 1] wz1 (γ 9) := (hBz 9 27 [.int .i32 0, .int .i32 0, .int .i32 0, .int .i32 0] (by kernel_rfl) [.int .i32 ((timesW ((rateW (q0) (q1) (q2) (q3) (f0) (f1) (f2)).a) ((rateW (q0) (q1) (q2) (q3) (f0) (f1) (f2)).b) ((rateW (q0) (q1) (q2) (q3) (f0) (f1) (f2)).c) ((rateW (q0) (q1) (q2) (q3) (f0) (f1) (f2)).d) (q0) (negW (q1)) (negW (q2)) (negW (q3))).a).v, .int .i32 ((timesW ((rateW (q0) (q1) (q2) (q3) (f0) (f1) (f2)).a) ((rateW (q0) (q1) (q2) (q3) (f0) (f1) (f2)).b) ((rateW (q0) (q1) (q2) (q3) (f0) (f1) (f2)).c) ((rateW (q0) (q1) (q2) (q3) (f0) (f1) (f2)).d) (q0) (negW (q1)) (negW (q2)) (negW (q3))).b).v, .int .i32 ((timesW ((rateW (q0) (q1) (q2) (q3) (f0) (f1) (f2)).a) ((rateW (q0) (q1) (q2) (q3) (f0) (f1) (f2)).b) ((rateW (q0) (q1) (q2) (q3) (f0) (f1) (f2)).c) ((rateW (q0) (q1) (q2) (q3) (f0) (f1) (f2)).d) (q0) (negW (q1)) (negW (q2)) (negW (q3))).c).v, .int .i32 ((timesW ((rateW (q0) (q1) (q2) (q3) (f0) (f1) (f2)).a) ((rateW (q0) (q1) (q2) (q3) (f0) (f1) (f2)).b) ((rateW (q0) (q1) (q2) (q3) (f0) (f1) (f2)).c) ((rateW (q0) (q1) (q2) (q3) (f0) (f1) (f2)).d) (q0) (negW (q1)) (negW (q2)) (negW (q3))).d).v] (by kernel_rfl)).2.1
    have ob0 : Blk wz1 (w.heap.size + 1 + 1 + 1) 27 [.int .i32 0, .int .i32 0, .int .i32 0, .int .i32 0] := by have h := (hBz 11 27 [.int .i32 0, .int .i32 0, .int .i32 0, .int .i32 0] (by kernel_rfl) [.int .i32 0, .int .i32 0, .int .i32 0, .int .i32 0] (by kernel_rfl)).1; rw [hOz 11 (Nat.le_trans (Nat.le_of_eq (by kernel_rfl : _ = 11)) (by decide : 11 ≤ 11))] at h; exact h
    have ne9_o0 : γ 9 ≠ w.heap.size + 1 + 1 + 1 := fun hne => hnez 9 11 (by kernel_rfl) (by kernel_rfl) (by decide) (hne.trans (hOz 11 (Nat.le_trans (Nat.le_of_eq (by kernel_rfl : _ = 11)) (by decide : 11 ≤ 11))).symm)
    refine end_of [(8, .pointer (some ⟨γ 9, 0, none⟩)), (18, .agg #[.iface 74 (.pointer (some ⟨b, 0, none⟩))]), (19, .agg #[.iface 74 (.pointer (some ⟨b, 0, none⟩))]), (20, .agg #[.int .i32 (q0).v, .int .i32 (q1).v, .int .i32 (q2).v, .int .i32 (q3).v]), (21, .agg #[.int .i32 (f0).v, .int .i32 (f1).v, .int .i32 (f2).v]), (22, .agg #[.int .i32 ((rateW (q0) (q1) (q2) (q3) (f0) (f1) (f2)).a).v, .int .i32 ((rateW (q0) (q1) (q2) (q3) (f0) (f1) (f2)).b).v, .int .i32 ((rateW (q0) (q1) (q2) (q3) (f0) (f1) (f2)).c).v, .int .i32 ((rateW (q0) (q1) (q2) (q3) (f0) (f1) (f2)).d).v]), (23, .agg #[.iface 74 (.pointer (some ⟨b, 0, none⟩))]), (24, .agg #[.int .i32 (q0).v, .int .i32 (q1).v, .int .i32 (q2).v, .int .i32 (q3).v]), (25, .agg #[.int .i32 (q0).v, .int .i32 (negW (q1)).v, .int .i32 (negW (q2)).v, .int .i32 (negW (q3)).v]), (26, .agg #[.int .i32 ((timesW ((rateW (q0) (q1) (q2) (q3) (f0) (f1) (f2)).a) ((rateW (q0) (q1) (q2) (q3) (f0) (f1) (f2)).b) ((rateW (q0) (q1) (q2) (q3) (f0) (f1) (f2)).c) ((rateW (q0) (q1) (q2) (q3) (f0) (f1) (f2)).d) (q0) (negW (q1)) (negW (q2)) (negW (q3))).a).v, .int .i32 ((timesW ((rateW (q0) (q1) (q2) (q3) (f0) (f1) (f2)).a) ((rateW (q0) (q1) (q2) (q3) (f0) (f1) (f2)).b) ((rateW (q0) (q1) (q2) (q3) (f0) (f1) (f2)).c) ((rateW (q0) (q1) (q2) (q3) (f0) (f1) (f2)).d) (q0) (negW (q1)) (negW (q2)) (negW (q3))).b).v, .int .i32 ((timesW ((rateW (q0) (q1) (q2) (q3) (f0) (f1) (f2)).a) ((rateW (q0) (q1) (q2) (q3) (f0) (f1) (f2)).b) ((rateW (q0) (q1) (q2) (q3) (f0) (f1) (f2)).c) ((rateW (q0) (q1) (q2) (q3) (f0) (f1) (f2)).d) (q0) (negW (q1)) (negW (q2)) (negW (q3))).c).v, .int .i32 ((timesW ((rateW (q0) (q1) (q2) (q3) (f0) (f1) (f2)).a) ((rateW (q0) (q1) (q2) (q3) (f0) (f1) (f2)).b) ((rateW (q0) (q1) (q2) (q3) (f0) (f1) (f2)).c) ((rateW (q0) (q1) (q2) (q3) (f0) (f1) (f2)).d) (q0) (negW (q1)) (negW (q2)) (negW (q3))).d).v])] (by kernel_rfl) ?_
    clear hBz hnez hOz HS0
    simp only [Reg.of, List.foldl_cons, List.foldl_nil, List.setIfInBounds_toArray, List.set_cons_zero, List.set_cons_succ]
    generalize γ 9 = b9 at *
    have HC1 := hide (HT0.out.region hSz (by simp; try omega))
    have pl1 := hSz.pl
    have fr1_0 := hSz.apart hap (w.heap.size + 1 + 1) (by simp)
    have fr1_1 := hSz.apart hap (w.heap.size + 1) (by simp)
    have fr1_2 := hSz.apart hap (w.heap.size + 1 + 1 + 1 + 1) (by simp)
    have fr1_3 := hSz.apart hap (w.heap.size) (by simp)
    have fr1_4 := hSz.turn_far lb3 fb3
    have lt1_0 := ob0.lt
    have y1_0 : wz1.cell? ⟨w.heap.size, 0, none⟩ = some (.iface 74 (.pointer (some ⟨b, 0, none⟩))) := hSz.at_ 0 _ _ (by rw [hCL]; rfl)
    have y1_1 : wz1.cell? ⟨w.heap.size + 1, 0, none⟩ = some (.int .i32 (q0).v) := hSz.at_ 1 _ _ (by rw [hCL]; rfl)
    have y1_2 : wz1.cell? ⟨w.heap.size + 1, 1, none⟩ = some (.int .i32 (q1).v) := hSz.at_ 2 _ _ (by rw [hCL]; rfl)
    have y1_3 : wz1.cell? ⟨w.heap.size + 1, 2, none⟩ = some (.int .i32 (q2).v) := hSz.at_ 3 _ _ (by rw [hCL]; rfl)
    have y1_4 : wz1.cell? ⟨w.heap.size + 1, 3, none⟩ = some (.int .i32 (q3).v) := hSz.at_ 4 _ _ (by rw [hCL]; rfl)
    have y1_5 : wz1.cell? ⟨w.heap.size + 1 + 1, 0, none⟩ = some (.int .i32 (f0).v) := hSz.at_ 5 _ _ (by rw [hCL]; rfl)
    have y1_6 : wz1.cell? ⟨w.heap.size + 1 + 1, 1, none⟩ = some (.int .i32 (f1).v) := hSz.at_ 6 _ _ (by rw [hCL]; rfl)
    have y1_7 : wz1.cell? ⟨w.heap.size + 1 + 1, 2, none⟩ = some (.int .i32 (f2).v) := hSz.at_ 7 _ _ (by rw [hCL]; rfl)
    have y1_8 : wz1.cell? ⟨w.heap.size + 1 + 1 + 1 + 1, 0, none⟩ = some (.func (.func 92) #[.agg #[.iface 74 (.pointer (some ⟨b, 0, none⟩))]] #[]) := hSz.at_ 8 _ _ (by rw [hCL]; rfl)
    clear hSz hCL hap CL g0_0 g1_0 g1_1 g1_2 g1_3 g2_0 g2_1 g2_2 g4_0 HT0 m3 fb0 fb1 fb2 fb3 fb4 lb3 hp6
    have mo1_0 := ob0
    clear ob0
    generalize b9 = b1_9 at *
    have nq1_9_0 : b1_9 ≠ w.heap.size + 1 + 1 + 1 := ne9_o0
    clear ne9_o0
    have yn1_9_0 : wz1.cell? ⟨b1_9, 0, none⟩ = some (.int .i32 ((timesW ((rateW (q0) (q1) (q2) (q3) (f0) (f1) (f2)).a) ((rateW (q0) (q1) (q2) (q3) (f0) (f1) (f2)).b) ((rateW (q0) (q1) (q2) (q3) (f0) (f1) (f2)).c) ((rateW (q0) (q1) (q2) (q3) (f0) (f1) (f2)).d) (q0) (negW (q1)) (negW (q2)) (negW (q3))).a).v) := nb9.cell' (i := 0) rfl
    have yn1_9_1 : wz1.cell? ⟨b1_9, 1, none⟩ = some (.int .i32 ((timesW ((rateW (q0) (q1) (q2) (q3) (f0) (f1) (f2)).a) ((rateW (q0) (q1) (q2) (q3) (f0) (f1) (f2)).b) ((rateW (q0) (q1) (q2) (q3) (f0) (f1) (f2)).c) ((rateW (q0) (q1) (q2) (q3) (f0) (f1) (f2)).d) (q0) (negW (q1)) (negW (q2)) (negW (q3))).b).v) := nb9.cell' (i := 1) rfl
    have yn1_9_2 : wz1.cell? ⟨b1_9, 2, none⟩ = some (.int .i32 ((timesW ((rateW (q0) (q1) (q2) (q3) (f0) (f1) (f2)).a) ((rateW (q0) (q1) (q2) (q3) (f0) (f1) (f2)).b) ((rateW (q0) (q1) (q2) (q3) (f0) (f1) (f2)).c) ((rateW (q0) (q1) (q2) (q3) (f0) (f1) (f2)).d) (q0) (negW (q1)) (negW (q2)) (negW (q3))).c).v) := nb9.cell' (i := 2) rfl
    have yn1_9_3 : wz1.cell? ⟨b1_9, 3, none⟩ = some (.int .i32 ((timesW ((rateW (q0) (q1) (q2) (q3) (f0) (f1) (f2)).a) ((rateW (q0) (q1) (q2) (q3) (f0) (f1) (f2)).b) ((rateW (q0) (q1) (q2) (q3) (f0) (f1) (f2)).c) ((rateW (q0) (q1) (q2) (q3) (f0) (f1) (f2)).d) (q0) (negW (q1)) (negW (q2)) (negW (q3))).d).v) := nb9.cell' (i := 3) rfl
    have fn1_9 := nf9.2.1
    go_wp2_with fail
    obtain ⟨CL, hCL⟩ : ∃ l : List (Addr × Value), l = [(⟨w.heap.size, 0, none⟩, .iface 74 (.pointer (some ⟨b, 0, none⟩))), (⟨w.heap.size + 1, 0, none⟩, .int .i32 (q0).v), (⟨w.heap.size + 1, 1, none⟩, .int .i32 (q1).v), (⟨w.heap.size + 1, 2, none⟩, .int .i32 (q2).v), (⟨w.heap.size + 1, 3, none⟩, .int .i32 (q3).v), (⟨w.heap.size + 1 + 1, 0, none⟩, .int .i32 (f0).v), (⟨w.heap.size + 1 + 1, 1, none⟩, .int .i32 (f1).v), (⟨w.heap.size + 1 + 1, 2, none⟩, .int .i32 (f2).v), (⟨w.heap.size + 1 + 1 + 1 + 1, 0, none⟩, .func (.func 92) #[.agg #[.iface 74 (.pointer (some ⟨b, 0, none⟩))]] #[]), (⟨b1_9, 0, none⟩, .int .i32 ((fieldH q0 q1 q2 q3 f0 f1 f2).a).v), (⟨b1_9, 1, none⟩, .int .i32 ((fieldH q0 q1 q2 q3 f0 f1 f2).b).v), (⟨b1_9, 2, none⟩, .int .i32 ((fieldH q0 q1 q2 q3 f0 f1 f2).c).v), (⟨b1_9, 3, none⟩, .int .i32 ((fieldH q0 q1 q2 q3 f0 f1 f2).d).v)] := ⟨_, rfl⟩
    have HS0 : Sp wz1 b (fun k => most (n + k)) [w.heap.size + 1 + 1 + 1] CL 0 wz1.drew := Sp.start pl1 (by rw [hCL]; simp only [List.forall_mem_cons]; exact ⟨y1_0, y1_1, y1_2, y1_3, y1_4, y1_5, y1_6, y1_7, y1_8, yn1_9_0, yn1_9_1, yn1_9_2, yn1_9_3, by simp⟩)
    have hap : Apart wz1 b [w.heap.size + 1 + 1 + 1] [b1_9, w.heap.size, w.heap.size + 1, w.heap.size + 1 + 1, w.heap.size + 1 + 1 + 1 + 1] CL := ⟨by rw [hCL]; simp only [List.forall_mem_cons]; exact ⟨by simp, by simp, by simp, by simp, by simp, by simp, by simp, by simp, by simp, by simp, by simp, by simp, by simp, by simp⟩, by simp only [List.forall_mem_cons]; exact ⟨World.block_lt_of_cell? _ _ yn1_9_0, World.block_lt_of_cell? _ _ y1_0, World.block_lt_of_cell? _ _ y1_1, World.block_lt_of_cell? _ _ y1_5, World.block_lt_of_cell? _ _ y1_8, by simp⟩, by simp only [List.forall_mem_cons]; exact ⟨fn1_9, fr1_3, fr1_1, fr1_0, fr1_2, by simp⟩, by simp only [List.forall_mem_cons]; exact ⟨⟨lt1_0, fr1_4⟩, by simp⟩⟩
    refine Reg.wp_region (Reg.of 13 _ _ [.agg #[.iface 74 (.pointer (some ⟨b, 0, none⟩))], .agg #[.iface 74 (.pointer (some ⟨b, 0, none⟩))], .pointer (some ⟨b1_9, 1, none⟩), .int .i32 ((fieldH q0 q1 q2 q3 f0 f1 f2).b).v, .pointer (some ⟨b1_9, 2, none⟩), .int .i32 ((fieldH q0 q1 q2 q3 f0 f1 f2).c).v, undef, .int .i32 (normW ((fieldH q0 q1 q2 q3 f0 f1 f2).b) [(fieldH q0 q1 q2 q3 f0 f1 f2).c]).v, .int .i32 (sqrtW (normW ((fieldH q0 q1 q2 q3 f0 f1 f2).b) [(fieldH q0 q1 q2 q3 f0 f1 f2).c])).v, .pointer (some ⟨b1_9, 3, none⟩), .int .i32 ((fieldH q0 q1 q2 q3 f0 f1 f2).d).v, .int .i32 (sqrtW (normW ((fieldH q0 q1 q2 q3 f0 f1 f2).b) [(fieldH q0 q1 q2 q3 f0 f1 f2).c])).v, .int .i32 ((fieldH q0 q1 q2 q3 f0 f1 f2).d).v] [fun _ => undef, fun _ => undef, fun _ => undef, fun _ => undef, fun _ => undef, fun _ => undef, fun g => .slice (some ⟨g, 0, none⟩) 2 2, fun _ => undef, fun _ => undef, fun _ => undef, fun _ => undef, fun _ => undef, fun _ => undef] [.val, .val, .val, .val, .val, .val, .new 21 [.int .i32 ((fieldH q0 q1 q2 q3 f0 f1 f2).b).v, .int .i32 ((fieldH q0 q1 q2 q3 f0 f1 f2).c).v], .val, .val, .val, .val, .val, .val] [(27, [.int .i32 0, .int .i32 0, .int .i32 0, .int .i32 0])] [w.heap.size + 1 + 1 + 1] [8] (Sp wz1 b (fun k => most (n + k)) [w.heap.size + 1 + 1 + 1] CL) (Fp wz1 b [w.heap.size + 1 + 1 + 1] [b1_9, w.heap.size, w.heap.size + 1, w.heap.size + 1 + 1, w.heap.size + 1 + 1 + 1 + 1])) (Reg.good_of _ 139 (by kernel_rfl) (by kernel_rfl)) (stands_p _ hap rfl rfl rfl) (by kernel_rfl) HS0 (hold_of (by kernel_rfl) ?holdwz2) (ne_of (by kernel_rfl) ?hnewz2) (Reg.steps_of _ rfl ⟨?_, ?_, ?_, ?_, ?_, ?_, ?_, ?_, ?_, ?_, ?_, ?_, ?_, trivial⟩) ?hendwz2
    case holdwz2 =>
      intro k T c hk
      cases k with
      | zero => simp only [List.getElem?_cons_zero, Option.some.injEq, Prod.mk.injEq] at hk; obtain ⟨rfl, rfl⟩ := hk; exact ⟨mo1_0, ⟨by simp; try omega, fr1_4, .inl (by simp)⟩⟩
      | succ k =>
        simp at hk
    case hnewz2 => intro i j hi hj hne; simp at hi hj; omega
    case hendwz2 =>
      intro wz2 γ hSz hBz hnez hOz
      replace hSz : Sp wz1 b (fun k => most (n + k)) [w.heap.size + 1 + 1 + 1] CL 1 wz2 := hSz
      have nb6 : Blk wz2 (γ 6) 21 [.int .i32 ((fieldH q0 q1 q2 q3 f0 f1 f2).b).v, .int .i32 ((fieldH q0 q1 q2 q3 f0 f1 f2).c).v] := (hBz 6 21 [.int .i32 ((fieldH q0 q1 q2 q3 f0 f1 f2).b).v, .int .i32 ((fieldH q0 q1 q2 q3 f0 f1 f2).c).v] (by kernel_rfl) [.int .i32 ((fieldH q0 q1 q2 q3 f0 f1 f2).b).v, .int .i32 ((fieldH q0 q1 q2 q3 f0 f1 f2).c).v] (by kernel_rfl)).1
      have nf6 : Fp wz1 b [w.heap.size + 1 + 1 + 1] [b1_9, w.heap.size, w.heap.size + 1, w.heap.size + 1 + 1, w.heap.size + 1 + 1 + 1 + 1] wz2 (γ 6) := (hBz 6 21 [.int .i32 ((fieldH q0 q1 q2 q3 f0 f1 f2).b).v, .int .i32 ((fieldH q0 q1 q2 q3 f0 f1 f2).c).v] (by kernel_rfl) [.int .i32 ((fieldH q0 q1 q2 q3 f0 f1 f2).b).v, .int .i32 ((fieldH q0 q1 q2 q3 f0 f1 f2).c).v] (by kernel_rfl)).2.1
      have ob0 : Blk wz2 (w.heap.size + 1 + 1 + 1) 27 [.int .i32 0, .int .i32 0, .int .i32 0, .int .i32 0] := by have h := (hBz 13 27 [.int .i32 0, .int .i32 0, .int .i32 0, .int .i32 0] (by kernel_rfl) [.int .i32 0, .int .i32 0, .int .i32 0, .int .i32 0] (by kernel_rfl)).1; rw [hOz 13 (Nat.le_trans (Nat.le_of_eq (by kernel_rfl : _ = 13)) (by decide : 13 ≤ 13))] at h; exact h
      refine end_of [(9, .int .i32 (sqrtW (normW ((fieldH q0 q1 q2 q3 f0 f1 f2).b) [(fieldH q0 q1 q2 q3 f0 f1 f2).c])).v), (10, .int .i32 ((fieldH q0 q1 q2 q3 f0 f1 f2).d).v), (27, .agg #[.iface 74 (.pointer (some ⟨b, 0, none⟩))]), (28, .agg #[.iface 74 (.pointer (some ⟨b, 0, none⟩))]), (29, .pointer (some ⟨b1_9, 1, none⟩)), (30, .int .i32 ((fieldH q0 q1 q2 q3 f0 f1 f2).b).v), (31, .pointer (some ⟨b1_9, 2, none⟩)), (32, .int .i32 ((fieldH q0 q1 q2 q3 f0 f1 f2).c).v), (33, .slice (some ⟨γ 6, 0, none⟩) 2 2), (34, .int .i32 (normW ((fieldH q0 q1 q2 q3 f0 f1 f2).b) [(fieldH q0 q1 q2 q3 f0 f1 f2).c]).v), (35, .int .i32 (sqrtW (normW ((fieldH q0 q1 q2 q3 f0 f1 f2).b) [(fieldH q0 q1 q2 q3 f0 f1 f2).c])).v), (36, .pointer (some ⟨b1_9, 3, none⟩)), (37, .int .i32 ((fieldH q0 q1 q2 q3 f0 f1 f2).d).v)] (by kernel_rfl) ?_
      clear hBz hnez hOz HS0
      simp only [Reg.of, List.foldl_cons, List.foldl_nil, List.setIfInBounds_toArray, List.set_cons_zero, List.set_cons_succ]
      generalize γ 6 = b6 at *
      have HC2 := hide (HC1.out.region hSz (by simp; try omega))
      have pl2 := hSz.pl
      have fr2_0 := hSz.apart hap (b1_9) (by simp)
      have fr2_1 := hSz.apart hap (w.heap.size) (by simp)
      have fr2_2 := hSz.apart hap (w.heap.size + 1 + 1) (by simp)
      have fr2_3 := hSz.apart hap (w.heap.size + 1 + 1 + 1 + 1) (by simp)
      have fr2_4 := hSz.apart hap (w.heap.size + 1) (by simp)
      have fr2_5 := hSz.turn_far lt1_0 fr1_4
      have lt2_0 := ob0.lt
      have y2_0 : wz2.cell? ⟨w.heap.size, 0, none⟩ = some (.iface 74 (.pointer (some ⟨b, 0, none⟩))) := hSz.at_ 0 _ _ (by rw [hCL]; rfl)
      have y2_1 : wz2.cell? ⟨w.heap.size + 1, 0, none⟩ = some (.int .i32 (q0).v) := hSz.at_ 1 _ _ (by rw [hCL]; rfl)
      have y2_2 : wz2.cell? ⟨w.heap.size + 1, 1, none⟩ = some (.int .i32 (q1).v) := hSz.at_ 2 _ _ (by rw [hCL]; rfl)
      have y2_3 : wz2.cell? ⟨w.heap.size + 1, 2, none⟩ = some (.int .i32 (q2).v) := hSz.at_ 3 _ _ (by rw [hCL]; rfl)
      have y2_4 : wz2.cell? ⟨w.heap.size + 1, 3, none⟩ = some (.int .i32 (q3).v) := hSz.at_ 4 _ _ (by rw [hCL]; rfl)
      have y2_5 : wz2.cell? ⟨w.heap.size + 1 + 1, 0, none⟩ = some (.int .i32 (f0).v) := hSz.at_ 5 _ _ (by rw [hCL]; rfl)
      have y2_6 : wz2.cell? ⟨w.heap.size + 1 + 1, 1, none⟩ = some (.int .i32 (f1).v) := hSz.at_ 6 _ _ (by rw [hCL]; rfl)
      have y2_7 : wz2.cell? ⟨w.heap.size + 1 + 1, 2, none⟩ = some (.int .i32 (f2).v) := hSz.at_ 7 _ _ (by rw [hCL]; rfl)
      have y2_8 : wz2.cell? ⟨w.heap.size + 1 + 1 + 1 + 1, 0, none⟩ = some (.func (.func 92) #[.agg #[.iface 74 (.pointer (some ⟨b, 0, none⟩))]] #[]) := hSz.at_ 8 _ _ (by rw [hCL]; rfl)
      have y2_9 : wz2.cell? ⟨b1_9, 0, none⟩ = some (.int .i32 ((fieldH q0 q1 q2 q3 f0 f1 f2).a).v) := hSz.at_ 9 _ _ (by rw [hCL]; rfl)
      have y2_10 : wz2.cell? ⟨b1_9, 1, none⟩ = some (.int .i32 ((fieldH q0 q1 q2 q3 f0 f1 f2).b).v) := hSz.at_ 10 _ _ (by rw [hCL]; rfl)
      have y2_11 : wz2.cell? ⟨b1_9, 2, none⟩ = some (.int .i32 ((fieldH q0 q1 q2 q3 f0 f1 f2).c).v) := hSz.at_ 11 _ _ (by rw [hCL]; rfl)
      have y2_12 : wz2.cell? ⟨b1_9, 3, none⟩ = some (.int .i32 ((fieldH q0 q1 q2 q3 f0 f1 f2).d).v) := hSz.at_ 12 _ _ (by rw [hCL]; rfl)
      clear hSz hCL hap CL y1_0 y1_1 y1_2 y1_3 y1_4 y1_5 y1_6 y1_7 y1_8 yn1_9_0 yn1_9_1 yn1_9_2 yn1_9_3 HC1 mo1_0 fr1_0 fr1_1 fr1_2 fr1_3 fr1_4 fn1_9 lt1_0 pl1
      have mo2_0 := ob0
      clear ob0
      clear nb6 nf6
      clear y2_9 y2_10 y2_11 y2_12 fr2_0
      go_wp2_with fail
      refine (werrors_calls _ q0 q1 q2 q3 (fieldB q0 q1 q2 q3 f0 f1 f2) (fieldZ q0 q1 q2 q3 f0 f1 f2) f0 f1 f2 _).mono ?_
      rintro e wz3 ⟨rfl, hcX⟩
      have y3_0 := hcX.cell y2_0 (by simp)
      have y3_1 := hcX.cell y2_1 (by simp)
      have y3_2 := hcX.cell y2_2 (by simp)
      have y3_3 := hcX.cell y2_3 (by simp)
      have y3_4 := hcX.cell y2_4 (by simp)
      have y3_5 := hcX.cell y2_5 (by simp)
      have y3_6 := hcX.cell y2_6 (by simp)
      have y3_7 := hcX.cell y2_7 (by simp)
      have y3_8 := hcX.cell y2_8 (by simp)
      have hd3 := dof_chg pl2 hcX (by simp)
      have fr3_0 := fr2_1
      rw [← hd3] at fr3_0
      have fr3_1 := fr2_2
      rw [← hd3] at fr3_1
      have fr3_2 := fr2_3
      rw [← hd3] at fr3_2
      have fr3_3 := fr2_4
      rw [← hd3] at fr3_3
      have fr3_4 := fr2_5
      rw [← hd3] at fr3_4
      have HC3 := hide (HC2.out.trans (Turn.call pl2 hcX))
      have pl3 := pl2.chg hcX (by simp)
      have mo3_0 := mo2_0.chg hcX (by simp)
      have lt3_0 := mo3_0.lt
      clear hcX hd3 y2_0 y2_1 y2_2 y2_3 y2_4 y2_5 y2_6 y2_7 y2_8 fr2_1 fr2_2 fr2_3 fr2_4 fr2_5 pl2 lt2_0 HC2 mo2_0
      have hal4 := (Chg.refl wz3 []).alloc (.cells #[.int .i32 ((errorsW q0 q1 q2 q3 (fieldB q0 q1 q2 q3 f0 f1 f2) (fieldZ q0 q1 q2 q3 f0 f1 f2) f0 f1 f2).a).v, .int .i32 ((errorsW q0 q1 q2 q3 (fieldB q0 q1 q2 q3 f0 f1 f2) (fieldZ q0 q1 q2 q3 f0 f1 f2) f0 f1 f2).b).v, .int .i32 ((errorsW q0 q1 q2 q3 (fieldB q0 q1 q2 q3 f0 f1 f2) (fieldZ q0 q1 q2 q3 f0 f1 f2) f0 f1 f2).c).v] 22)
      have mn4 := Blk.new wz3 22 [.int .i32 ((errorsW q0 q1 q2 q3 (fieldB q0 q1 q2 q3 f0 f1 f2) (fieldZ q0 q1 q2 q3 f0 f1 f2) f0 f1 f2).a).v, .int .i32 ((errorsW q0 q1 q2 q3 (fieldB q0 q1 q2 q3 f0 f1 f2) (fieldZ q0 q1 q2 q3 f0 f1 f2) f0 f1 f2).b).v, .int .i32 ((errorsW q0 q1 q2 q3 (fieldB q0 q1 q2 q3 f0 f1 f2) (fieldZ q0 q1 q2 q3 f0 f1 f2) f0 f1 f2).c).v]
      have fn4 := far_of pl3 hal4 wz3.heap.size (Nat.le_refl _)
      have nq4_0 : wz3.heap.size ≠ w.heap.size + 1 + 1 + 1 := by have := mo3_0.lt; omega
      have y4_0 := hal4.cell y3_0 (by simp)
      have y4_1 := hal4.cell y3_1 (by simp)
      have y4_2 := hal4.cell y3_2 (by simp)
      have y4_3 := hal4.cell y3_3 (by simp)
      have y4_4 := hal4.cell y3_4 (by simp)
      have y4_5 := hal4.cell y3_5 (by simp)
      have y4_6 := hal4.cell y3_6 (by simp)
      have y4_7 := hal4.cell y3_7 (by simp)
      have y4_8 := hal4.cell y3_8 (by simp)
      have hd4 := dof_chg pl3 hal4 (by simp)
      have fr4_0 := fr3_0
      rw [← hd4] at fr4_0
      have fr4_1 := fr3_1
      rw [← hd4] at fr4_1
      have fr4_2 := fr3_2
      rw [← hd4] at fr4_2
      have fr4_3 := fr3_3
      rw [← hd4] at fr4_3
      have fr4_4 := fr3_4
      rw [← hd4] at fr4_4
      have HC4 := hide (HC3.out.trans (Turn.call pl3 hal4))
      have pl4 := pl3.chg hal4 (by simp)
      have mo4_0 := mo3_0.chg hal4 (by simp)
      have lt4_0 := mo4_0.lt
      have yn4_0 : (wz3.alloc (.cells #[.int .i32 ((errorsW q0 q1 q2 q3 (fieldB q0 q1 q2 q3 f0 f1 f2) (fieldZ q0 q1 q2 q3 f0 f1 f2) f0 f1 f2).a).v, .int .i32 ((errorsW q0 q1 q2 q3 (fieldB q0 q1 q2 q3 f0 f1 f2) (fieldZ q0 q1 q2 q3 f0 f1 f2) f0 f1 f2).b).v, .int .i32 ((errorsW q0 q1 q2 q3 (fieldB q0 q1 q2 q3 f0 f1 f2) (fieldZ q0 q1 q2 q3 f0 f1 f2) f0 f1 f2).c).v] 22)).cell? ⟨wz3.heap.size, 0, none⟩ = some (.int .i32 ((errorsW q0 q1 q2 q3 (fieldB q0 q1 q2 q3 f0 f1 f2) (fieldZ q0 q1 q2 q3 f0 f1 f2) f0 f1 f2).a).v) := mn4.cell' (i := 0) rfl
      have yn4_1 : (wz3.alloc (.cells #[.int .i32 ((errorsW q0 q1 q2 q3 (fieldB q0 q1 q2 q3 f0 f1 f2) (fieldZ q0 q1 q2 q3 f0 f1 f2) f0 f1 f2).a).v, .int .i32 ((errorsW q0 q1 q2 q3 (fieldB q0 q1 q2 q3 f0 f1 f2) (fieldZ q0 q1 q2 q3 f0 f1 f2) f0 f1 f2).b).v, .int .i32 ((errorsW q0 q1 q2 q3 (fieldB q0 q1 q2 q3 f0 f1 f2) (fieldZ q0 q1 q2 q3 f0 f1 f2) f0 f1 f2).c).v] 22)).cell? ⟨wz3.heap.size, 1, none⟩ = some (.int .i32 ((errorsW q0 q1 q2 q3 (fieldB q0 q1 q2 q3 f0 f1 f2) (fieldZ q0 q1 q2 q3 f0 f1 f2) f0 f1 f2).b).v) := mn4.cell' (i := 1) rfl
      have yn4_2 : (wz3.alloc (.cells #[.int .i32 ((errorsW q0 q1 q2 q3 (fieldB q0 q1 q2 q3 f0 f1 f2) (fieldZ q0 q1 q2 q3 f0 f1 f2) f0 f1 f2).a).v, .int .i32 ((errorsW q0 q1 q2 q3 (fieldB q0 q1 q2 q3 f0 f1 f2) (fieldZ q0 q1 q2 q3 f0 f1 f2) f0 f1 f2).b).v, .int .i32 ((errorsW q0 q1 q2 q3 (fieldB q0 q1 q2 q3 f0 f1 f2) (fieldZ q0 q1 q2 q3 f0 f1 f2) f0 f1 f2).c).v] 22)).cell? ⟨wz3.heap.size, 2, none⟩ = some (.int .i32 ((errorsW q0 q1 q2 q3 (fieldB q0 q1 q2 q3 f0 f1 f2) (fieldZ q0 q1 q2 q3 f0 f1 f2) f0 f1 f2).c).v) := mn4.cell' (i := 2) rfl
      clear hal4 hd4 mn4 y3_0 y3_1 y3_2 y3_3 y3_4 y3_5 y3_6 y3_7 y3_8 fr3_0 fr3_1 fr3_2 fr3_3 fr3_4 pl3 lt3_0 HC3 mo3_0
      go_wp2_with fail
      generalize (wz3.alloc (.cells #[.int .i32 ((errorsW q0 q1 q2 q3 (fieldB q0 q1 q2 q3 f0 f1 f2) (fieldZ q0 q1 q2 q3 f0 f1 f2) f0 f1 f2).a).v, .int .i32 ((errorsW q0 q1 q2 q3 (fieldB q0 q1 q2 q3 f0 f1 f2) (fieldZ q0 q1 q2 q3 f0 f1 f2) f0 f1 f2).b).v, .int .i32 ((errorsW q0 q1 q2 q3 (fieldB q0 q1 q2 q3 f0 f1 f2) (fieldZ q0 q1 q2 q3 f0 f1 f2) f0 f1 f2).c).v] 22)) = wz4 at *
      generalize wz3.heap.size = bo4 at *
      clear y4_5 y4_6 y4_7 fr4_1
      obtain ⟨CL, hCL⟩ : ∃ l : List (Addr × Value), l = [(⟨w.heap.size, 0, none⟩, .iface 74 (.pointer (some ⟨b, 0, none⟩))), (⟨w.heap.size + 1, 0, none⟩, .int .i32 (q0).v), (⟨w.heap.size + 1, 1, none⟩, .int .i32 (q1).v), (⟨w.heap.size + 1, 2, none⟩, .int .i32 (q2).v), (⟨w.heap.size + 1, 3, none⟩, .int .i32 (q3).v), (⟨w.heap.size + 1 + 1 + 1 + 1, 0, none⟩, .func (.func 92) #[.agg #[.iface 74 (.pointer (some ⟨b, 0, none⟩))]] #[]), (⟨bo4, 0, none⟩, .int .i32 ((fieldE q0 q1 q2 q3 f0 f1 f2).a).v), (⟨bo4, 1, none⟩, .int .i32 ((fieldE q0 q1 q2 q3 f0 f1 f2).b).v), (⟨bo4, 2, none⟩, .int .i32 ((fieldE q0 q1 q2 q3 f0 f1 f2).c).v)] := ⟨_, rfl⟩
      have HS0 : Sp wz4 b (fun _ => ((fun k => most (n + k)) 1)) [w.heap.size + 1 + 1 + 1] CL 0 wz4.drew := Sp.start pl4 (by rw [hCL]; simp only [List.forall_mem_cons]; exact ⟨y4_0, y4_1, y4_2, y4_3, y4_4, y4_8, yn4_0, yn4_1, yn4_2, by simp⟩)
      have hap : Apart wz4 b [w.heap.size + 1 + 1 + 1] [bo4, w.heap.size, w.heap.size + 1, w.heap.size + 1 + 1 + 1 + 1] CL := ⟨by rw [hCL]; simp only [List.forall_mem_cons]; exact ⟨by simp, by simp, by simp, by simp, by simp, by simp, by simp, by simp, by simp, by simp⟩, by simp only [List.forall_mem_cons]; exact ⟨World.block_lt_of_cell? _ _ yn4_0, World.block_lt_of_cell? _ _ y4_0, World.block_lt_of_cell? _ _ y4_1, World.block_lt_of_cell? _ _ y4_8, by simp⟩, by simp only [List.forall_mem_cons]; exact ⟨fn4, fr4_0, fr4_3, fr4_2, by simp⟩, by simp only [List.forall_mem_cons]; exact ⟨⟨lt4_0, fr4_4⟩, by simp⟩⟩
      refine Reg.wp_region (Reg.of 12 _ _ [.agg #[.iface 74 (.pointer (some ⟨b, 0, none⟩))], .int .i32 (fieldB q0 q1 q2 q3 f0 f1 f2).v, .agg #[.int .i32 (q0).v, .int .i32 (q1).v, .int .i32 (q2).v, .int .i32 (q3).v], .agg #[.int .i32 (mulqW (fieldB q0 q1 q2 q3 f0 f1 f2) (q0)).v, .int .i32 (mulqW (fieldB q0 q1 q2 q3 f0 f1 f2) (q1)).v, .int .i32 (mulqW (fieldB q0 q1 q2 q3 f0 f1 f2) (q2)).v, .int .i32 (mulqW (fieldB q0 q1 q2 q3 f0 f1 f2) (q3)).v], .agg #[.iface 74 (.pointer (some ⟨b, 0, none⟩))], .int .i32 (fieldZ q0 q1 q2 q3 f0 f1 f2).v, .agg #[.int .i32 (q0).v, .int .i32 (q1).v, .int .i32 (q2).v, .int .i32 (q3).v], .agg #[.int .i32 (mulqW (fieldZ q0 q1 q2 q3 f0 f1 f2) (q0)).v, .int .i32 (mulqW (fieldZ q0 q1 q2 q3 f0 f1 f2) (q1)).v, .int .i32 (mulqW (fieldZ q0 q1 q2 q3 f0 f1 f2) (q2)).v, .int .i32 (mulqW (fieldZ q0 q1 q2 q3 f0 f1 f2) (q3)).v], undef, undef, undef, undef] [fun _ => undef, fun _ => undef, fun _ => undef, fun _ => undef, fun _ => undef, fun _ => undef, fun _ => undef, fun _ => undef, fun g => .pointer (some ⟨g, 0, none⟩), fun g => .pointer (some ⟨g, 0, none⟩), fun _ => undef, fun _ => undef] [.val, .val, .val, .val, .val, .val, .val, .val, .new 27 [.int .i32 0, .int .i32 0, .int .i32 0, .int .i32 0], .new 27 [.int .i32 0, .int .i32 0, .int .i32 0, .int .i32 0], .put 8 [.int .i32 (mulqW (fieldB q0 q1 q2 q3 f0 f1 f2) (q0)).v, .int .i32 (mulqW (fieldB q0 q1 q2 q3 f0 f1 f2) (q1)).v, .int .i32 (mulqW (fieldB q0 q1 q2 q3 f0 f1 f2) (q2)).v, .int .i32 (mulqW (fieldB q0 q1 q2 q3 f0 f1 f2) (q3)).v], .put 9 [.int .i32 (mulqW (fieldZ q0 q1 q2 q3 f0 f1 f2) (q0)).v, .int .i32 (mulqW (fieldZ q0 q1 q2 q3 f0 f1 f2) (q1)).v, .int .i32 (mulqW (fieldZ q0 q1 q2 q3 f0 f1 f2) (q2)).v, .int .i32 (mulqW (fieldZ q0 q1 q2 q3 f0 f1 f2) (q3)).v]] [(27, [.int .i32 0, .int .i32 0, .int .i32 0, .int .i32 0])] [w.heap.size + 1 + 1 + 1] [] (Sp wz4 b (fun _ => ((fun k => most (n + k)) 1)) [w.heap.size + 1 + 1 + 1] CL) (Fp wz4 b [w.heap.size + 1 + 1 + 1] [bo4, w.heap.size, w.heap.size + 1, w.heap.size + 1 + 1 + 1 + 1])) (Reg.good_of _ 139 (by kernel_rfl) (by kernel_rfl)) (stands_p _ hap rfl rfl rfl) (by kernel_rfl) HS0 (hold_of (by kernel_rfl) ?holdwz5) (ne_of (by kernel_rfl) ?hnewz5) (Reg.steps_of _ rfl ⟨?_, ?_, ?_, ?_, ?_, ?_, ?_, ?_, ?_, ?_, ?_, ?_, trivial⟩) ?hendwz5
      case holdwz5 =>
        intro k T c hk
        cases k with
        | zero => simp only [List.getElem?_cons_zero, Option.some.injEq, Prod.mk.injEq] at hk; obtain ⟨rfl, rfl⟩ := hk; exact ⟨mo4_0, ⟨by simp; try omega, fr4_4, .inl (by simp)⟩⟩
        | succ k =>
          simp at hk
      case hnewz5 => intro i j hi hj hne; simp at hi hj; omega
      case hendwz5 =>
        intro wz5 γ hSz hBz hnez hOz
        replace hSz : Sp wz4 b (fun _ => ((fun k => most (n + k)) 1)) [w.heap.size + 1 + 1 + 1] CL 0 wz5 := hSz
        have nb8 : Blk wz5 (γ 8) 27 [.int .i32 (mulqW (fieldB q0 q1 q2 q3 f0 f1 f2) (q0)).v, .int .i32 (mulqW (fieldB q0 q1 q2 q3 f0 f1 f2) (q1)).v, .int .i32 (mulqW (fieldB q0 q1 q2 q3 f0 f1 f2) (q2)).v, .int .i32 (mulqW (fieldB q0 q1 q2 q3 f0 f1 f2) (q3)).v] := (hBz 8 27 [.int .i32 0, .int .i32 0, .int .i32 0, .int .i32 0] (by kernel_rfl) [.int .i32 (mulqW (fieldB q0 q1 q2 q3 f0 f1 f2) (q0)).v, .int .i32 (mulqW (fieldB q0 q1 q2 q3 f0 f1 f2) (q1)).v, .int .i32 (mulqW (fieldB q0 q1 q2 q3 f0 f1 f2) (q2)).v, .int .i32 (mulqW (fieldB q0 q1 q2 q3 f0 f1 f2) (q3)).v] (by kernel_rfl)).1
        have nf8 : Fp wz4 b [w.heap.size + 1 + 1 + 1] [bo4, w.heap.size, w.heap.size + 1, w.heap.size + 1 + 1 + 1 + 1] wz5 (γ 8) := (hBz 8 27 [.int .i32 0, .int .i32 0, .int .i32 0, .int .i32 0] (by kernel_rfl) [.int .i32 (mulqW (fieldB q0 q1 q2 q3 f0 f1 f2) (q0)).v, .int .i32 (mulqW (fieldB q0 q1 q2 q3 f0 f1 f2) (q1)).v, .int .i32 (mulqW (fieldB q0 q1 q2 q3 f0 f1 f2) (q2)).v, .int .i32 (mulqW (fieldB q0 q1 q2 q3 f0 f1 f2) (q3)).v] (by kernel_rfl)).2.1
        have nb9 : Blk wz5 (γ 9) 27 [.int .i32 (mulqW (fieldZ q0 q1 q2 q3 f0 f1 f2) (q0)).v, .int .i32 (mulqW (fieldZ q0 q1 q2 q3 f0 f1 f2) (q1)).v, .int .i32 (mulqW (fieldZ q0 q1 q2 q3 f0 f1 f2) (q2)).v, .int .i32 (mulqW (fieldZ q0 q1 q2 q3 f0 f1 f2) (q3)).v] := (hBz 9 27 [.int .i32 0, .int .i32 0, .int .i32 0, .int .i32 0] (by kernel_rfl) [.int .i32 (mulqW (fieldZ q0 q1 q2 q3 f0 f1 f2) (q0)).v, .int .i32 (mulqW (fieldZ q0 q1 q2 q3 f0 f1 f2) (q1)).v, .int .i32 (mulqW (fieldZ q0 q1 q2 q3 f0 f1 f2) (q2)).v, .int .i32 (mulqW (fieldZ q0 q1 q2 q3 f0 f1 f2) (q3)).v] (by kernel_rfl)).1
        have nf9 : Fp wz4 b [w.heap.size + 1 + 1 + 1] [bo4, w.heap.size, w.heap.size + 1, w.heap.size + 1 + 1 + 1 + 1] wz5 (γ 9) := (hBz 9 27 [.int .i32 0, .int .i32 0, .int .i32 0, .int .i32 0] (by kernel_rfl) [.int .i32 (mulqW (fieldZ q0 q1 q2 q3 f0 f1 f2) (q0)).v, .int .i32 (mulqW (fieldZ q0 q1 q2 q3 f0 f1 f2) (q1)).v, .int .i32 (mulqW (fieldZ q0 q1 q2 q3 f0 f1 f2) (q2)).v, .int .i32 (mulqW (fieldZ q0 q1 q2 q3 f0 f1 f2) (q3)).v] (by kernel_rfl)).2.1
        have ob0 : Blk wz5 (w.heap.size + 1 + 1 + 1) 27 [.int .i32 0, .int .i32 0, .int .i32 0, .int .i32 0] := by have h := (hBz 12 27 [.int .i32 0, .int .i32 0, .int .i32 0, .int .i32 0] (by kernel_rfl) [.int .i32 0, .int .i32 0, .int .i32 0, .int .i32 0] (by kernel_rfl)).1; rw [hOz 12 (Nat.le_trans (Nat.le_of_eq (by kernel_rfl : _ = 12)) (by decide : 12 ≤ 12))] at h; exact h
        have ne8_o0 : γ 8 ≠ w.heap.size + 1 + 1 + 1 := fun hne => hnez 8 12 (by kernel_rfl) (by kernel_rfl) (by decide) (hne.trans (hOz 12 (Nat.le_trans (Nat.le_of_eq (by kernel_rfl : _ = 12)) (by decide : 12 ≤ 12))).symm)
        have ne9_o0 : γ 9 ≠ w.heap.size + 1 + 1 + 1 := fun hne => hnez 9 12 (by kernel_rfl) (by kernel_rfl) (by decide) (hne.trans (hOz 12 (Nat.le_trans (Nat.le_of_eq (by kernel_rfl : _ = 12)) (by decide : 12 ≤ 12))).symm)
        refine end_of [(12, .pointer (some ⟨γ 8, 0, none⟩)), (13, .pointer (some ⟨γ 9, 0, none⟩)), (44, .agg #[.iface 74 (.pointer (some ⟨b, 0, none⟩))]), (45, .int .i32 (fieldB q0 q1 q2 q3 f0 f1 f2).v), (46, .agg #[.int .i32 (q0).v, .int .i32 (q1).v, .int .i32 (q2).v, .int .i32 (q3).v]), (47, .agg #[.int .i32 (mulqW (fieldB q0 q1 q2 q3 f0 f1 f2) (q0)).v, .int .i32 (mulqW (fieldB q0 q1 q2 q3 f0 f1 f2) (q1)).v, .int .i32 (mulqW (fieldB q0 q1 q2 q3 f0 f1 f2) (q2)).v, .int .i32 (mulqW (fieldB q0 q1 q2 q3 f0 f1 f2) (q3)).v]), (48, .agg #[.iface 74 (.pointer (some ⟨b, 0, none⟩))]), (49, .int .i32 (fieldZ q0 q1 q2 q3 f0 f1 f2).v), (50, .agg #[.int .i32 (q0).v, .int .i32 (q1).v, .int .i32 (q2).v, .int .i32 (q3).v]), (51, .agg #[.int .i32 (mulqW (fieldZ q0 q1 q2 q3 f0 f1 f2) (q0)).v, .int .i32 (mulqW (fieldZ q0 q1 q2 q3 f0 f1 f2) (q1)).v, .int .i32 (mulqW (fieldZ q0 q1 q2 q3 f0 f1 f2) (q2)).v, .int .i32 (mulqW (fieldZ q0 q1 q2 q3 f0 f1 f2) (q3)).v])] (by kernel_rfl) ?_
        clear hBz hnez hOz HS0
        simp only [Reg.of, List.foldl_cons, List.foldl_nil, List.setIfInBounds_toArray, List.set_cons_zero, List.set_cons_succ]
        generalize γ 8 = b8 at *
        generalize γ 9 = b9 at *
        have HC5 := hide (HC4.out.region hSz (by simp; try omega))
        have pl5 := hSz.pl
        have fr5_0 := hSz.apart hap (w.heap.size + 1) (by simp)
        have fr5_1 := hSz.apart hap (bo4) (by simp)
        have fr5_2 := hSz.apart hap (w.heap.size + 1 + 1 + 1 + 1) (by simp)
        have fr5_3 := hSz.apart hap (w.heap.size) (by simp)
        have fr5_4 := hSz.turn_far lt4_0 fr4_4
        have lt5_0 := ob0.lt
        have y5_0 : wz5.cell? ⟨w.heap.size, 0, none⟩ = some (.iface 74 (.pointer (some ⟨b, 0, none⟩))) := hSz.at_ 0 _ _ (by rw [hCL]; rfl)
        have y5_1 : wz5.cell? ⟨w.heap.size + 1, 0, none⟩ = some (.int .i32 (q0).v) := hSz.at_ 1 _ _ (by rw [hCL]; rfl)
        have y5_2 : wz5.cell? ⟨w.heap.size + 1, 1, none⟩ = some (.int .i32 (q1).v) := hSz.at_ 2 _ _ (by rw [hCL]; rfl)
        have y5_3 : wz5.cell? ⟨w.heap.size + 1, 2, none⟩ = some (.int .i32 (q2).v) := hSz.at_ 3 _ _ (by rw [hCL]; rfl)
        have y5_4 : wz5.cell? ⟨w.heap.size + 1, 3, none⟩ = some (.int .i32 (q3).v) := hSz.at_ 4 _ _ (by rw [hCL]; rfl)
        have y5_5 : wz5.cell? ⟨w.heap.size + 1 + 1 + 1 + 1, 0, none⟩ = some (.func (.func 92) #[.agg #[.iface 74 (.pointer (some ⟨b, 0, none⟩))]] #[]) := hSz.at_ 5 _ _ (by rw [hCL]; rfl)
        have y5_6 : wz5.cell? ⟨bo4, 0, none⟩ = some (.int .i32 ((fieldE q0 q1 q2 q3 f0 f1 f2).a).v) := hSz.at_ 6 _ _ (by rw [hCL]; rfl)
        have y5_7 : wz5.cell? ⟨bo4, 1, none⟩ = some (.int .i32 ((fieldE q0 q1 q2 q3 f0 f1 f2).b).v) := hSz.at_ 7 _ _ (by rw [hCL]; rfl)
        have y5_8 : wz5.cell? ⟨bo4, 2, none⟩ = some (.int .i32 ((fieldE q0 q1 q2 q3 f0 f1 f2).c).v) := hSz.at_ 8 _ _ (by rw [hCL]; rfl)
        clear hSz hCL hap CL y4_0 y4_1 y4_2 y4_3 y4_4 y4_8 yn4_0 yn4_1 yn4_2 HC4 mo4_0 fr4_0 fr4_2 fr4_3 fr4_4 fn4 lt4_0 pl4
        have mo5_0 := ob0
        clear ob0
        generalize b8 = b5_8 at *
        have nq5_8_0 : b5_8 ≠ w.heap.size + 1 + 1 + 1 := ne8_o0
        clear ne8_o0
        have yn5_8_0 : wz5.cell? ⟨b5_8, 0, none⟩ = some (.int .i32 (mulqW (fieldB q0 q1 q2 q3 f0 f1 f2) (q0)).v) := nb8.cell' (i := 0) rfl
        have yn5_8_1 : wz5.cell? ⟨b5_8, 1, none⟩ = some (.int .i32 (mulqW (fieldB q0 q1 q2 q3 f0 f1 f2) (q1)).v) := nb8.cell' (i := 1) rfl
        have yn5_8_2 : wz5.cell? ⟨b5_8, 2, none⟩ = some (.int .i32 (mulqW (fieldB q0 q1 q2 q3 f0 f1 f2) (q2)).v) := nb8.cell' (i := 2) rfl
        have yn5_8_3 : wz5.cell? ⟨b5_8, 3, none⟩ = some (.int .i32 (mulqW (fieldB q0 q1 q2 q3 f0 f1 f2) (q3)).v) := nb8.cell' (i := 3) rfl
        have fn5_8 := nf8.2.1
        generalize b9 = b5_9 at *
        have nq5_9_0 : b5_9 ≠ w.heap.size + 1 + 1 + 1 := ne9_o0
        clear ne9_o0
        have yn5_9_0 : wz5.cell? ⟨b5_9, 0, none⟩ = some (.int .i32 (mulqW (fieldZ q0 q1 q2 q3 f0 f1 f2) (q0)).v) := nb9.cell' (i := 0) rfl
        have yn5_9_1 : wz5.cell? ⟨b5_9, 1, none⟩ = some (.int .i32 (mulqW (fieldZ q0 q1 q2 q3 f0 f1 f2) (q1)).v) := nb9.cell' (i := 1) rfl
        have yn5_9_2 : wz5.cell? ⟨b5_9, 2, none⟩ = some (.int .i32 (mulqW (fieldZ q0 q1 q2 q3 f0 f1 f2) (q2)).v) := nb9.cell' (i := 2) rfl
        have yn5_9_3 : wz5.cell? ⟨b5_9, 3, none⟩ = some (.int .i32 (mulqW (fieldZ q0 q1 q2 q3 f0 f1 f2) (q3)).v) := nb9.cell' (i := 3) rfl
        have fn5_9 := nf9.2.1
        obtain ⟨e0, he0⟩ : ∃ x, x = (fieldE q0 q1 q2 q3 f0 f1 f2).a := ⟨_, rfl⟩
        replace y5_6 : wz5.cell? ⟨bo4, 0, none⟩ = some (.int .i32 e0.v) := by rw [he0]; exact y5_6
        have He0 := hide he0
        clear he0
        obtain ⟨e1, he1⟩ : ∃ x, x = (fieldE q0 q1 q2 q3 f0 f1 f2).b := ⟨_, rfl⟩
        replace y5_7 : wz5.cell? ⟨bo4, 1, none⟩ = some (.int .i32 e1.v) := by rw [he1]; exact y5_7
        have He1 := hide he1
        clear he1
        obtain ⟨e2, he2⟩ : ∃ x, x = (fieldE q0 q1 q2 q3 f0 f1 f2).c := ⟨_, rfl⟩
        replace y5_8 : wz5.cell? ⟨bo4, 2, none⟩ = some (.int .i32 e2.v) := by rw [he2]; exact y5_8
        have He2 := hide he2
        clear he2
        obtain ⟨x0, hx0⟩ : ∃ x, x = (fieldX q0 q1 q2 q3 f0 f1 f2).a := ⟨_, rfl⟩
        replace yn5_8_0 : wz5.cell? ⟨b5_8, 0, none⟩ = some (.int .i32 x0.v) := by rw [hx0]; exact yn5_8_0
        have Hx0 := hide hx0
        clear hx0
        obtain ⟨x1, hx1⟩ : ∃ x, x = (fieldX q0 q1 q2 q3 f0 f1 f2).b := ⟨_, rfl⟩
        replace yn5_8_1 : wz5.cell? ⟨b5_8, 1, none⟩ = some (.int .i32 x1.v) := by rw [hx1]; exact yn5_8_1
        have Hx1 := hide hx1
        clear hx1
        obtain ⟨x2, hx2⟩ : ∃ x, x = (fieldX q0 q1 q2 q3 f0 f1 f2).c := ⟨_, rfl⟩
        replace yn5_8_2 : wz5.cell? ⟨b5_8, 2, none⟩ = some (.int .i32 x2.v) := by rw [hx2]; exact yn5_8_2
        have Hx2 := hide hx2
        clear hx2
        obtain ⟨x3, hx3⟩ : ∃ x, x = (fieldX q0 q1 q2 q3 f0 f1 f2).d := ⟨_, rfl⟩
        replace yn5_8_3 : wz5.cell? ⟨b5_8, 3, none⟩ = some (.int .i32 x3.v) := by rw [hx3]; exact yn5_8_3
        have Hx3 := hide hx3
        clear hx3
        obtain ⟨y0, hy0⟩ : ∃ x, x = (fieldY q0 q1 q2 q3 f0 f1 f2).a := ⟨_, rfl⟩
        replace yn5_9_0 : wz5.cell? ⟨b5_9, 0, none⟩ = some (.int .i32 y0.v) := by rw [hy0]; exact yn5_9_0
        have Hy0 := hide hy0
        clear hy0
        obtain ⟨y1, hy1⟩ : ∃ x, x = (fieldY q0 q1 q2 q3 f0 f1 f2).b := ⟨_, rfl⟩
        replace yn5_9_1 : wz5.cell? ⟨b5_9, 1, none⟩ = some (.int .i32 y1.v) := by rw [hy1]; exact yn5_9_1
        have Hy1 := hide hy1
        clear hy1
        obtain ⟨y2, hy2⟩ : ∃ x, x = (fieldY q0 q1 q2 q3 f0 f1 f2).c := ⟨_, rfl⟩
        replace yn5_9_2 : wz5.cell? ⟨b5_9, 2, none⟩ = some (.int .i32 y2.v) := by rw [hy2]; exact yn5_9_2
        have Hy2 := hide hy2
        clear hy2
        obtain ⟨y3, hy3⟩ : ∃ x, x = (fieldY q0 q1 q2 q3 f0 f1 f2).d := ⟨_, rfl⟩
        replace yn5_9_3 : wz5.cell? ⟨b5_9, 3, none⟩ = some (.int .i32 y3.v) := by rw [hy3]; exact yn5_9_3
        have Hy3 := hide hy3
        clear hy3
        clear y5_1 y5_2 y5_3 y5_4 fr5_0
        go_wp2_with fail
        obtain ⟨CL, hCL⟩ : ∃ l : List (Addr × Value), l = [(⟨w.heap.size, 0, none⟩, .iface 74 (.pointer (some ⟨b, 0, none⟩))), (⟨w.heap.size + 1 + 1 + 1 + 1, 0, none⟩, .func (.func 92) #[.agg #[.iface 74 (.pointer (some ⟨b, 0, none⟩))]] #[]), (⟨bo4, 0, none⟩, .int .i32 (e0).v), (⟨bo4, 1, none⟩, .int .i32 (e1).v), (⟨bo4, 2, none⟩, .int .i32 (e2).v), (⟨b5_8, 0, none⟩, .int .i32 (x0).v), (⟨b5_8, 1, none⟩, .int .i32 (x1).v), (⟨b5_8, 2, none⟩, .int .i32 (x2).v), (⟨b5_8, 3, none⟩, .int .i32 (x3).v), (⟨b5_9, 0, none⟩, .int .i32 (y0).v), (⟨b5_9, 1, none⟩, .int .i32 (y1).v), (⟨b5_9, 2, none⟩, .int .i32 (y2).v), (⟨b5_9, 3, none⟩, .int .i32 (y3).v)] := ⟨_, rfl⟩
        have HS0 : Sp wz5 b (fun _ => ((fun k => most (n + k)) 1)) [w.heap.size + 1 + 1 + 1] CL 0 wz5.drew := Sp.start pl5 (by rw [hCL]; simp only [List.forall_mem_cons]; exact ⟨y5_0, y5_5, y5_6, y5_7, y5_8, yn5_8_0, yn5_8_1, yn5_8_2, yn5_8_3, yn5_9_0, yn5_9_1, yn5_9_2, yn5_9_3, by simp⟩)
        have hap : Apart wz5 b [w.heap.size + 1 + 1 + 1] [bo4, b5_8, b5_9, w.heap.size, w.heap.size + 1 + 1 + 1 + 1] CL := ⟨by rw [hCL]; simp only [List.forall_mem_cons]; exact ⟨by simp, by simp, by simp, by simp, by simp, by simp, by simp, by simp, by simp, by simp, by simp, by simp, by simp, by simp⟩, by simp only [List.forall_mem_cons]; exact ⟨World.block_lt_of_cell? _ _ y5_6, World.block_lt_of_cell? _ _ yn5_8_0, World.block_lt_of_cell? _ _ yn5_9_0, World.block_lt_of_cell? _ _ y5_0, World.block_lt_of_cell? _ _ y5_5, by simp⟩, by simp only [List.forall_mem_cons]; exact ⟨fr5_1, fn5_8, fn5_9, fr5_3, fr5_2, by simp⟩, by simp only [List.forall_mem_cons]; exact ⟨⟨lt5_0, fr5_4⟩, by simp⟩⟩
        refine Reg.wp_region (Reg.of 86 _ _ [.func (.func 111) #[] #[.pointer (some ⟨w.heap.size, 0, none⟩), .pointer (some ⟨w.heap.size + 1 + 1 + 1 + 1, 0, none⟩), .pointer (some ⟨bo4, 0, none⟩)], .func (.func 112) #[] #[.pointer (some ⟨w.heap.size, 0, none⟩)], .pointer (some ⟨b5_9, 2, none⟩), .int .i32 (y2).v, .int .i32 (negW (y2)).v, .agg #[.iface 74 (.pointer (some ⟨b, 0, none⟩))], .pointer (some ⟨b5_9, 1, none⟩), .int .i32 (y1).v, .pointer (some ⟨b5_8, 3, none⟩), .int .i32 (x3).v, undef, .int .i32 (lessW (y1) [x3]).v, .pointer (some ⟨b5_8, 2, none⟩), .int .i32 (x2).v, .int .i32 (sumW (negW (y2)) (lessW (y1) [x3]) (x2) (e0) (e1) (e2)).v, .func (.func 111) #[] #[.pointer (some ⟨w.heap.size, 0, none⟩), .pointer (some ⟨w.heap.size + 1 + 1 + 1 + 1, 0, none⟩), .pointer (some ⟨bo4, 0, none⟩)], .pointer (some ⟨b5_9, 3, none⟩), .int .i32 (y3).v, .agg #[.iface 74 (.pointer (some ⟨b, 0, none⟩))], .pointer (some ⟨b5_8, 2, none⟩), .int .i32 (x2).v, .pointer (some ⟨b5_9, 0, none⟩), .int .i32 (y0).v, undef, .int .i32 (moreW (x2) [y0]).v, .agg #[.iface 74 (.pointer (some ⟨b, 0, none⟩))], .pointer (some ⟨b5_8, 3, none⟩), .int .i32 (x3).v, .pointer (some ⟨b5_9, 1, none⟩), .int .i32 (y1).v, .pointer (some ⟨b5_9, 1, none⟩), .int .i32 (y1).v, undef, .int .i32 (lessW (x3) [y1, y1]).v, .int .i32 (sumW (y3) (moreW (x2) [y0]) (lessW (x3) [y1, y1]) (e0) (e1) (e2)).v, .func (.func 111) #[] #[.pointer (some ⟨w.heap.size, 0, none⟩), .pointer (some ⟨w.heap.size + 1 + 1 + 1 + 1, 0, none⟩), .pointer (some ⟨bo4, 0, none⟩)], .func (.func 112) #[] #[.pointer (some ⟨w.heap.size, 0, none⟩)], .agg #[.iface 74 (.pointer (some ⟨b, 0, none⟩))], .pointer (some ⟨b5_8, 2, none⟩), .int .i32 (x2).v, .pointer (some ⟨b5_8, 2, none⟩), .int .i32 (x2).v, .pointer (some ⟨b5_9, 0, none⟩), .int .i32 (y0).v, undef, .int .i32 (moreW (x2) [x2, y0]).v, .int .i32 (negW (moreW (x2) [x2, y0])).v, .agg #[.iface 74 (.pointer (some ⟨b, 0, none⟩))], .pointer (some ⟨b5_8, 1, none⟩), .int .i32 (x1).v, .pointer (some ⟨b5_9, 3, none⟩), .int .i32 (y3).v, undef, .int .i32 (moreW (x1) [y3]).v, .agg #[.iface 74 (.pointer (some ⟨b, 0, none⟩))], .pointer (some ⟨b5_8, 0, none⟩), .int .i32 (x0).v, .pointer (some ⟨b5_9, 2, none⟩), .int .i32 (y2).v, .pointer (some ⟨b5_9, 2, none⟩), .int .i32 (y2).v, undef, .int .i32 (lessW (x0) [y2, y2]).v, .int .i32 (sumW (negW (moreW (x2) [x2, y0])) (moreW (x1) [y3]) (lessW (x0) [y2, y2]) (e0) (e1) (e2)).v, .func (.func 111) #[] #[.pointer (some ⟨w.heap.size, 0, none⟩), .pointer (some ⟨w.heap.size + 1 + 1 + 1 + 1, 0, none⟩), .pointer (some ⟨bo4, 0, none⟩)], .agg #[.iface 74 (.pointer (some ⟨b, 0, none⟩))], .pointer (some ⟨b5_9, 1, none⟩), .int .i32 (y1).v, .pointer (some ⟨b5_8, 3, none⟩), .int .i32 (x3).v, .pointer (some ⟨b5_8, 3, none⟩), .int .i32 (x3).v, undef, .int .i32 (lessW (y1) [x3, x3]).v, .agg #[.iface 74 (.pointer (some ⟨b, 0, none⟩))], .pointer (some ⟨b5_9, 2, none⟩), .int .i32 (y2).v, .pointer (some ⟨b5_8, 0, none⟩), .int .i32 (x0).v, undef, .int .i32 (lessW (y2) [x0]).v, .pointer (some ⟨b5_8, 1, none⟩), .int .i32 (x1).v, .int .i32 (sumW (lessW (y1) [x3, x3]) (lessW (y2) [x0]) (x1) (e0) (e1) (e2)).v, .agg #[.int .i32 (sumW (negW (y2)) (lessW (y1) [x3]) (x2) (e0) (e1) (e2)).v, .int .i32 (sumW (y3) (moreW (x2) [y0]) (lessW (x3) [y1, y1]) (e0) (e1) (e2)).v, .int .i32 (sumW (negW (moreW (x2) [x2, y0])) (moreW (x1) [y3]) (lessW (x0) [y2, y2]) (e0) (e1) (e2)).v, .int .i32 (sumW (lessW (y1) [x3, x3]) (lessW (y2) [x0]) (x1) (e0) (e1) (e2)).v], undef] [fun _ => undef, fun _ => undef, fun _ => undef, fun _ => undef, fun _ => undef, fun _ => undef, fun _ => undef, fun _ => undef, fun _ => undef, fun _ => undef, fun g => .slice (some ⟨g, 0, none⟩) 1 1, fun _ => undef, fun _ => undef, fun _ => undef, fun _ => undef, fun _ => undef, fun _ => undef, fun _ => undef, fun _ => undef, fun _ => undef, fun _ => undef, fun _ => undef, fun _ => undef, fun g => .slice (some ⟨g, 0, none⟩) 1 1, fun _ => undef, fun _ => undef, fun _ => undef, fun _ => undef, fun _ => undef, fun _ => undef, fun _ => undef, fun _ => undef, fun g => .slice (some ⟨g, 0, none⟩) 2 2, fun _ => undef, fun _ => undef, fun _ => undef, fun _ => undef, fun _ => undef, fun _ => undef, fun _ => undef, fun _ => undef, fun _ => undef, fun _ => undef, fun _ => undef, fun g => .slice (some ⟨g, 0, none⟩) 2 2, fun _ => undef, fun _ => undef, fun _ => undef, fun _ => undef, fun _ => undef, fun _ => undef, fun _ => undef, fun g => .slice (some ⟨g, 0, none⟩) 1 1, fun _ => undef, fun _ => undef, fun _ => undef, fun _ => undef, fun _ => undef, fun _ => undef, fun _ => undef, fun _ => undef, fun g => .slice (some ⟨g, 0, none⟩) 2 2, fun _ => undef, fun _ => undef, fun _ => undef, fun _ => undef, fun _ => undef, fun _ => undef, fun _ => undef, fun _ => undef, fun _ => undef, fun _ => undef, fun g => .slice (some ⟨g, 0, none⟩) 2 2, fun _ => undef, fun _ => undef, fun _ => undef, fun _ => undef, fun _ => undef, fun _ => undef, fun g => .slice (some ⟨g, 0, none⟩) 1 1, fun _ => undef, fun _ => undef, fun _ => undef, fun _ => undef, fun _ => undef, fun _ => undef] [.val, .val, .val, .val, .val, .val, .val, .val, .val, .val, .new 21 [.int .i32 (x3).v], .val, .val, .val, .val, .val, .val, .val, .val, .val, .val, .val, .val, .new 21 [.int .i32 (y0).v], .val, .val, .val, .val, .val, .val, .val, .val, .new 21 [.int .i32 (y1).v, .int .i32 (y1).v], .val, .val, .val, .val, .val, .val, .val, .val, .val, .val, .val, .new 21 [.int .i32 (x2).v, .int .i32 (y0).v], .val, .val, .val, .val, .val, .val, .val, .new 21 [.int .i32 (y3).v], .val, .val, .val, .val, .val, .val, .val, .val, .new 21 [.int .i32 (y2).v, .int .i32 (y2).v], .val, .val, .val, .val, .val, .val, .val, .val, .val, .val, .new 21 [.int .i32 (x3).v, .int .i32 (x3).v], .val, .val, .val, .val, .val, .val, .new 21 [.int .i32 (x0).v], .val, .val, .val, .val, .val, .put 86 [.int .i32 (sumW (negW (y2)) (lessW (y1) [x3]) (x2) (e0) (e1) (e2)).v, .int .i32 (sumW (y3) (moreW (x2) [y0]) (lessW (x3) [y1, y1]) (e0) (e1) (e2)).v, .int .i32 (sumW (negW (moreW (x2) [x2, y0])) (moreW (x1) [y3]) (lessW (x0) [y2, y2]) (e0) (e1) (e2)).v, .int .i32 (sumW (lessW (y1) [x3, x3]) (lessW (y2) [x0]) (x1) (e0) (e1) (e2)).v]] [(27, [.int .i32 0, .int .i32 0, .int .i32 0, .int .i32 0])] [w.heap.size + 1 + 1 + 1] [] (Sp wz5 b (fun _ => ((fun k => most (n + k)) 1)) [w.heap.size + 1 + 1 + 1] CL) (Fp wz5 b [w.heap.size + 1 + 1 + 1] [bo4, b5_8, b5_9, w.heap.size, w.heap.size + 1 + 1 + 1 + 1])) (Reg.good_of _ 139 (by kernel_rfl) (by kernel_rfl)) (stands_p _ hap rfl rfl rfl) (by kernel_rfl) HS0 (hold_of (by kernel_rfl) ?holdwz6) (ne_of (by kernel_rfl) ?hnewz6) (Reg.steps_of _ rfl ⟨?_, ?_, ?_, ?_, ?_, ?_, ?_, ?_, ?_, ?_, ?_, ?_, ?_, ?_, ?_, ?_, ?_, ?_, ?_, ?_, ?_, ?_, ?_, ?_, ?_, ?_, ?_, ?_, ?_, ?_, ?_, ?_, ?_, ?_, ?_, ?_, ?_, ?_, ?_, ?_, ?_, ?_, ?_, ?_, ?_, ?_, ?_, ?_, ?_, ?_, ?_, ?_, ?_, ?_, ?_, ?_, ?_, ?_, ?_, ?_, ?_, ?_, ?_, ?_, ?_, ?_, ?_, ?_, ?_, ?_, ?_, ?_, ?_, ?_, ?_, ?_, ?_, ?_, ?_, ?_, ?_, ?_, ?_, ?_, ?_, ?_, trivial⟩) ?hendwz6
        case holdwz6 =>
          intro k T c hk
          cases k with
          | zero => simp only [List.getElem?_cons_zero, Option.some.injEq, Prod.mk.injEq] at hk; obtain ⟨rfl, rfl⟩ := hk; exact ⟨mo5_0, ⟨by simp; try omega, fr5_4, .inl (by simp)⟩⟩
          | succ k =>
            simp at hk
        case hnewz6 => intro i j hi hj hne; simp at hi hj; omega
        case hendwz6 =>
          intro wz6 γ hSz hBz hnez hOz
          replace hSz : Sp wz5 b (fun _ => ((fun k => most (n + k)) 1)) [w.heap.size + 1 + 1 + 1] CL 0 wz6 := hSz
          have nb10 : Blk wz6 (γ 10) 21 [.int .i32 (x3).v] := (hBz 10 21 [.int .i32 (x3).v] (by kernel_rfl) [.int .i32 (x3).v] (by kernel_rfl)).1
          have nf10 : Fp wz5 b [w.heap.size + 1 + 1 + 1] [bo4, b5_8, b5_9, w.heap.size, w.heap.size + 1 + 1 + 1 + 1] wz6 (γ 10) := (hBz 10 21 [.int .i32 (x3).v] (by kernel_rfl) [.int .i32 (x3).v] (by kernel_rfl)).2.1
          have nb23 : Blk wz6 (γ 23) 21 [.int .i32 (y0).v] := (hBz 23 21 [.int .i32 (y0).v] (by kernel_rfl) [.int .i32 (y0).v] (by kernel_rfl)).1
          have nf23 : Fp wz5 b [w.heap.size + 1 + 1 + 1] [bo4, b5_8, b5_9, w.heap.size, w.heap.size + 1 + 1 + 1 + 1] wz6 (γ 23) := (hBz 23 21 [.int .i32 (y0).v] (by kernel_rfl) [.int .i32 (y0).v] (by kernel_rfl)).2.1
          have nb32 : Blk wz6 (γ 32) 21 [.int .i32 (y1).v, .int .i32 (y1).v] := (hBz 32 21 [.int .i32 (y1).v, .int .i32 (y1).v] (by kernel_rfl) [.int .i32 (y1).v, .int .i32 (y1).v] (by kernel_rfl)).1
          have nf32 : Fp wz5 b [w.heap.size + 1 + 1 + 1] [bo4, b5_8, b5_9, w.heap.size, w.heap.size + 1 + 1 + 1 + 1] wz6 (γ 32) := (hBz 32 21 [.int .i32 (y1).v, .int .i32 (y1).v] (by kernel_rfl) [.int .i32 (y1).v, .int .i32 (y1).v] (by kernel_rfl)).2.1
          have nb44 : Blk wz6 (γ 44) 21 [.int .i32 (x2).v, .int .i32 (y0).v] := (hBz 44 21 [.int .i32 (x2).v, .int .i32 (y0).v] (by kernel_rfl) [.int .i32 (x2).v, .int .i32 (y0).v] (by kernel_rfl)).1
          have nf44 : Fp wz5 b [w.heap.size + 1 + 1 + 1] [bo4, b5_8, b5_9, w.heap.size, w.heap.size + 1 + 1 + 1 + 1] wz6 (γ 44) := (hBz 44 21 [.int .i32 (x2).v, .int .i32 (y0).v] (by kernel_rfl) [.int .i32 (x2).v, .int .i32 (y0).v] (by kernel_rfl)).2.1
          have nb52 : Blk wz6 (γ 52) 21 [.int .i32 (y3).v] := (hBz 52 21 [.int .i32 (y3).v] (by kernel_rfl) [.int .i32 (y3).v] (by kernel_rfl)).1
          have nf52 : Fp wz5 b [w.heap.size + 1 + 1 + 1] [bo4, b5_8, b5_9, w.heap.size, w.heap.size + 1 + 1 + 1 + 1] wz6 (γ 52) := (hBz 52 21 [.int .i32 (y3).v] (by kernel_rfl) [.int .i32 (y3).v] (by kernel_rfl)).2.1
          have nb61 : Blk wz6 (γ 61) 21 [.int .i32 (y2).v, .int .i32 (y2).v] := (hBz 61 21 [.int .i32 (y2).v, .int .i32 (y2).v] (by kernel_rfl) [.int .i32 (y2).v, .int .i32 (y2).v] (by kernel_rfl)).1
          have nf61 : Fp wz5 b [w.heap.size + 1 + 1 + 1] [bo4, b5_8, b5_9, w.heap.size, w.heap.size + 1 + 1 + 1 + 1] wz6 (γ 61) := (hBz 61 21 [.int .i32 (y2).v, .int .i32 (y2).v] (by kernel_rfl) [.int .i32 (y2).v, .int .i32 (y2).v] (by kernel_rfl)).2.1
          have nb72 : Blk wz6 (γ 72) 21 [.int .i32 (x3).v, .int .i32 (x3).v] := (hBz 72 21 [.int .i32 (x3).v, .int .i32 (x3).v] (by kernel_rfl) [.int .i32 (x3).v, .int .i32 (x3).v] (by kernel_rfl)).1
          have nf72 : Fp wz5 b [w.heap.size + 1 + 1 + 1] [bo4, b5_8, b5_9, w.heap.size, w.heap.size + 1 + 1 + 1 + 1] wz6 (γ 72) := (hBz 72 21 [.int .i32 (x3).v, .int .i32 (x3).v] (by kernel_rfl) [.int .i32 (x3).v, .int .i32 (x3).v] (by kernel_rfl)).2.1
          have nb79 : Blk wz6 (γ 79) 21 [.int .i32 (x0).v] := (hBz 79 21 [.int .i32 (x0).v] (by kernel_rfl) [.int .i32 (x0).v] (by kernel_rfl)).1
          have nf79 : Fp wz5 b [w.heap.size + 1 + 1 + 1] [bo4, b5_8, b5_9, w.heap.size, w.heap.size + 1 + 1 + 1 + 1] wz6 (γ 79) := (hBz 79 21 [.int .i32 (x0).v] (by kernel_rfl) [.int .i32 (x0).v] (by kernel_rfl)).2.1
          have ob0 : Blk wz6 (w.heap.size + 1 + 1 + 1) 27 [.int .i32 (sumW (negW (y2)) (lessW (y1) [x3]) (x2) (e0) (e1) (e2)).v, .int .i32 (sumW (y3) (moreW (x2) [y0]) (lessW (x3) [y1, y1]) (e0) (e1) (e2)).v, .int .i32 (sumW (negW (moreW (x2) [x2, y0])) (moreW (x1) [y3]) (lessW (x0) [y2, y2]) (e0) (e1) (e2)).v, .int .i32 (sumW (lessW (y1) [x3, x3]) (lessW (y2) [x0]) (x1) (e0) (e1) (e2)).v] := by have h := (hBz 86 27 [.int .i32 0, .int .i32 0, .int .i32 0, .int .i32 0] (by kernel_rfl) [.int .i32 (sumW (negW (y2)) (lessW (y1) [x3]) (x2) (e0) (e1) (e2)).v, .int .i32 (sumW (y3) (moreW (x2) [y0]) (lessW (x3) [y1, y1]) (e0) (e1) (e2)).v, .int .i32 (sumW (negW (moreW (x2) [x2, y0])) (moreW (x1) [y3]) (lessW (x0) [y2, y2]) (e0) (e1) (e2)).v, .int .i32 (sumW (lessW (y1) [x3, x3]) (lessW (y2) [x0]) (x1) (e0) (e1) (e2)).v] (by kernel_rfl)).1; rw [hOz 86 (Nat.le_trans (Nat.le_of_eq (by kernel_rfl : _ = 86)) (by decide : 86 ≤ 86))] at h; exact h
          refine end_of [(54, .func (.func 111) #[] #[.pointer (some ⟨w.heap.size, 0, none⟩), .pointer (some ⟨w.heap.size + 1 + 1 + 1 + 1, 0, none⟩), .pointer (some ⟨bo4, 0, none⟩)]), (55, .func (.func 112) #[] #[.pointer (some ⟨w.heap.size, 0, none⟩)]), (56, .pointer (some ⟨b5_9, 2, none⟩)), (57, .int .i32 (y2).v), (58, .int .i32 (negW (y2)).v), (59, .agg #[.iface 74 (.pointer (some ⟨b, 0, none⟩))]), (60, .pointer (some ⟨b5_9, 1, none⟩)), (61, .int .i32 (y1).v), (62, .pointer (some ⟨b5_8, 3, none⟩)), (63, .int .i32 (x3).v), (64, .slice (some ⟨γ 10, 0, none⟩) 1 1), (65, .int .i32 (lessW (y1) [x3]).v), (66, .pointer (some ⟨b5_8, 2, none⟩)), (67, .int .i32 (x2).v), (68, .int .i32 (sumW (negW (y2)) (lessW (y1) [x3]) (x2) (e0) (e1) (e2)).v), (69, .func (.func 111) #[] #[.pointer (some ⟨w.heap.size, 0, none⟩), .pointer (some ⟨w.heap.size + 1 + 1 + 1 + 1, 0, none⟩), .pointer (some ⟨bo4, 0, none⟩)]), (70, .pointer (some ⟨b5_9, 3, none⟩)), (71, .int .i32 (y3).v), (72, .agg #[.iface 74 (.pointer (some ⟨b, 0, none⟩))]), (73, .pointer (some ⟨b5_8, 2, none⟩)), (74, .int .i32 (x2).v), (75, .pointer (some ⟨b5_9, 0, none⟩)), (76, .int .i32 (y0).v), (77, .slice (some ⟨γ 23, 0, none⟩) 1 1), (78, .int .i32 (moreW (x2) [y0]).v), (79, .agg #[.iface 74 (.pointer (some ⟨b, 0, none⟩))]), (80, .pointer (some ⟨b5_8, 3, none⟩)), (81, .int .i32 (x3).v), (82, .pointer (some ⟨b5_9, 1, none⟩)), (83, .int .i32 (y1).v), (84, .pointer (some ⟨b5_9, 1, none⟩)), (85, .int .i32 (y1).v), (86, .slice (some ⟨γ 32, 0, none⟩) 2 2), (87, .int .i32 (lessW (x3) [y1, y1]).v), (88, .int .i32 (sumW (y3) (moreW (x2) [y0]) (lessW (x3) [y1, y1]) (e0) (e1) (e2)).v), (89, .func (.func 111) #[] #[.pointer (some ⟨w.heap.size, 0, none⟩), .pointer (some ⟨w.heap.size + 1 + 1 + 1 + 1, 0, none⟩), .pointer (some ⟨bo4, 0, none⟩)]), (90, .func (.func 112) #[] #[.pointer (some ⟨w.heap.size, 0, none⟩)]), (91, .agg #[.iface 74 (.pointer (some ⟨b, 0, none⟩))]), (92, .pointer (some ⟨b5_8, 2, none⟩)), (93, .int .i32 (x2).v), (94, .pointer (some ⟨b5_8, 2, none⟩)), (95, .int .i32 (x2).v), (96, .pointer (some ⟨b5_9, 0, none⟩)), (97, .int .i32 (y0).v), (98, .slice (some ⟨γ 44, 0, none⟩) 2 2), (99, .int .i32 (moreW (x2) [x2, y0]).v), (100, .int .i32 (negW (moreW (x2) [x2, y0])).v), (101, .agg #[.iface 74 (.pointer (some ⟨b, 0, none⟩))]), (102, .pointer (some ⟨b5_8, 1, none⟩)), (103, .int .i32 (x1).v), (104, .pointer (some ⟨b5_9, 3, none⟩)), (105, .int .i32 (y3).v), (106, .slice (some ⟨γ 52, 0, none⟩) 1 1), (107, .int .i32 (moreW (x1) [y3]).v), (108, .agg #[.iface 74 (.pointer (some ⟨b, 0, none⟩))]), (109, .pointer (some ⟨b5_8, 0, none⟩)), (110, .int .i32 (x0).v), (111, .pointer (some ⟨b5_9, 2, none⟩)), (112, .int .i32 (y2).v), (113, .pointer (some ⟨b5_9, 2, none⟩)), (114, .int .i32 (y2).v), (115, .slice (some ⟨γ 61, 0, none⟩) 2 2), (116, .int .i32 (lessW (x0) [y2, y2]).v), (117, .int .i32 (sumW (negW (moreW (x2) [x2, y0])) (moreW (x1) [y3]) (lessW (x0) [y2, y2]) (e0) (e1) (e2)).v), (118, .func (.func 111) #[] #[.pointer (some ⟨w.heap.size, 0, none⟩), .pointer (some ⟨w.heap.size + 1 + 1 + 1 + 1, 0, none⟩), .pointer (some ⟨bo4, 0, none⟩)]), (119, .agg #[.iface 74 (.pointer (some ⟨b, 0, none⟩))]), (120, .pointer (some ⟨b5_9, 1, none⟩)), (121, .int .i32 (y1).v), (122, .pointer (some ⟨b5_8, 3, none⟩)), (123, .int .i32 (x3).v), (124, .pointer (some ⟨b5_8, 3, none⟩)), (125, .int .i32 (x3).v), (126, .slice (some ⟨γ 72, 0, none⟩) 2 2), (127, .int .i32 (lessW (y1) [x3, x3]).v), (128, .agg #[.iface 74 (.pointer (some ⟨b, 0, none⟩))]), (129, .pointer (some ⟨b5_9, 2, none⟩)), (130, .int .i32 (y2).v), (131, .pointer (some ⟨b5_8, 0, none⟩)), (132, .int .i32 (x0).v), (133, .slice (some ⟨γ 79, 0, none⟩) 1 1), (134, .int .i32 (lessW (y2) [x0]).v), (135, .pointer (some ⟨b5_8, 1, none⟩)), (136, .int .i32 (x1).v), (137, .int .i32 (sumW (lessW (y1) [x3, x3]) (lessW (y2) [x0]) (x1) (e0) (e1) (e2)).v), (138, .agg #[.int .i32 (sumW (negW (y2)) (lessW (y1) [x3]) (x2) (e0) (e1) (e2)).v, .int .i32 (sumW (y3) (moreW (x2) [y0]) (lessW (x3) [y1, y1]) (e0) (e1) (e2)).v, .int .i32 (sumW (negW (moreW (x2) [x2, y0])) (moreW (x1) [y3]) (lessW (x0) [y2, y2]) (e0) (e1) (e2)).v, .int .i32 (sumW (lessW (y1) [x3, x3]) (lessW (y2) [x0]) (x1) (e0) (e1) (e2)).v])] (by kernel_rfl) ?_
          clear hBz hnez hOz HS0
          simp only [Reg.of, List.foldl_cons, List.foldl_nil, List.setIfInBounds_toArray, List.set_cons_zero, List.set_cons_succ]
          generalize γ 10 = b10 at *
          generalize γ 23 = b23 at *
          generalize γ 32 = b32 at *
          generalize γ 44 = b44 at *
          generalize γ 52 = b52 at *
          generalize γ 61 = b61 at *
          generalize γ 72 = b72 at *
          generalize γ 79 = b79 at *
          have HC6 := hide (HC5.out.region hSz (by simp; try omega))
          have pl6 := hSz.pl
          have fr6_0 := hSz.apart hap (w.heap.size) (by simp)
          have fr6_1 := hSz.apart hap (bo4) (by simp)
          have fr6_2 := hSz.apart hap (b5_9) (by simp)
          have fr6_3 := hSz.apart hap (w.heap.size + 1 + 1 + 1 + 1) (by simp)
          have fr6_4 := hSz.apart hap (b5_8) (by simp)
          have fr6_5 := hSz.turn_far lt5_0 fr5_4
          have lt6_0 := ob0.lt
          have y6_0 : wz6.cell? ⟨w.heap.size, 0, none⟩ = some (.iface 74 (.pointer (some ⟨b, 0, none⟩))) := hSz.at_ 0 _ _ (by rw [hCL]; rfl)
          have y6_1 : wz6.cell? ⟨w.heap.size + 1 + 1 + 1 + 1, 0, none⟩ = some (.func (.func 92) #[.agg #[.iface 74 (.pointer (some ⟨b, 0, none⟩))]] #[]) := hSz.at_ 1 _ _ (by rw [hCL]; rfl)
          have y6_2 : wz6.cell? ⟨bo4, 0, none⟩ = some (.int .i32 (e0).v) := hSz.at_ 2 _ _ (by rw [hCL]; rfl)
          have y6_3 : wz6.cell? ⟨bo4, 1, none⟩ = some (.int .i32 (e1).v) := hSz.at_ 3 _ _ (by rw [hCL]; rfl)
          have y6_4 : wz6.cell? ⟨bo4, 2, none⟩ = some (.int .i32 (e2).v) := hSz.at_ 4 _ _ (by rw [hCL]; rfl)
          have y6_5 : wz6.cell? ⟨b5_8, 0, none⟩ = some (.int .i32 (x0).v) := hSz.at_ 5 _ _ (by rw [hCL]; rfl)
          have y6_6 : wz6.cell? ⟨b5_8, 1, none⟩ = some (.int .i32 (x1).v) := hSz.at_ 6 _ _ (by rw [hCL]; rfl)
          have y6_7 : wz6.cell? ⟨b5_8, 2, none⟩ = some (.int .i32 (x2).v) := hSz.at_ 7 _ _ (by rw [hCL]; rfl)
          have y6_8 : wz6.cell? ⟨b5_8, 3, none⟩ = some (.int .i32 (x3).v) := hSz.at_ 8 _ _ (by rw [hCL]; rfl)
          have y6_9 : wz6.cell? ⟨b5_9, 0, none⟩ = some (.int .i32 (y0).v) := hSz.at_ 9 _ _ (by rw [hCL]; rfl)
          have y6_10 : wz6.cell? ⟨b5_9, 1, none⟩ = some (.int .i32 (y1).v) := hSz.at_ 10 _ _ (by rw [hCL]; rfl)
          have y6_11 : wz6.cell? ⟨b5_9, 2, none⟩ = some (.int .i32 (y2).v) := hSz.at_ 11 _ _ (by rw [hCL]; rfl)
          have y6_12 : wz6.cell? ⟨b5_9, 3, none⟩ = some (.int .i32 (y3).v) := hSz.at_ 12 _ _ (by rw [hCL]; rfl)
          clear hSz hCL hap CL y5_0 y5_5 y5_6 y5_7 y5_8 yn5_8_0 yn5_8_1 yn5_8_2 yn5_8_3 yn5_9_0 yn5_9_1 yn5_9_2 yn5_9_3 HC5 mo5_0 fr5_1 fr5_2 fr5_3 fr5_4 fn5_8 fn5_9 lt5_0 pl5
          have mo6_0 := ob0
          clear ob0
          clear nb10 nf10
          clear nb23 nf23
          clear nb32 nf32
          clear nb44 nf44
          clear nb52 nf52
          clear nb61 nf61
          clear nb72 nf72
          clear nb79 nf79
          have xr0 := mo6_0.cell' (i := 0) rfl
          have xr1 := mo6_0.cell' (i := 1) rfl
          have xr2 := mo6_0.cell' (i := 2) rfl
          have xr3 := mo6_0.cell' (i := 3) rfl
          go_wp2
          have hy3 := Hy3.out
          subst hy3
          have hy2 := Hy2.out
          subst hy2
          have hy1 := Hy1.out
          subst hy1
          have hy0 := Hy0.out
          subst hy0
          have hx3 := Hx3.out
          subst hx3
          have hx2 := Hx2.out
          subst hx2
          have hx1 := Hx1.out
          subst hx1
          have hx0 := Hx0.out
          subst hx0
          have he2 := He2.out
          subst he2
          have he1 := He1.out
          subst he1
          have he0 := He0.out
          subst he0
          refine bodyPost_ret (v := .agg #[.int .i32 (fieldW q0 q1 q2 q3 f0 f1 f2).a.v, .int .i32 (fieldW q0 q1 q2 q3 f0 f1 f2).b.v, .int .i32 (fieldW q0 q1 q2 q3 f0 f1 f2).c.v, .int .i32 (fieldW q0 q1 q2 q3 f0 f1 f2).d.v]) (by simp [results, Tryz.f66, go_sem, xr0, xr1, xr2, xr3]; exact ⟨rfl, rfl, rfl, rfl⟩) rfl ⟨rfl, pl6, HC6.out⟩
        · intro a wu γ nph K hp hK
          obtain ⟨e14a, e14b⟩ := hp.old_ 14 (.func (.func 111) #[] #[.pointer (some ⟨w.heap.size, 0, none⟩), .pointer (some ⟨w.heap.size + 1 + 1 + 1 + 1, 0, none⟩), .pointer (some ⟨bo4, 0, none⟩)])
          have hk := hK.pure (.func (.func 111) #[] #[.pointer (some ⟨w.heap.size, 0, none⟩), .pointer (some ⟨w.heap.size + 1 + 1 + 1 + 1, 0, none⟩), .pointer (some ⟨bo4, 0, none⟩)]) hp.S
          clear hp hK
          go_simp
          exact hk
        · intro a wu γ nph K hp hK
          obtain ⟨e15a, e15b⟩ := hp.old_ 15 (.func (.func 112) #[] #[.pointer (some ⟨w.heap.size, 0, none⟩)])
          have hk := hK.pure (.func (.func 112) #[] #[.pointer (some ⟨w.heap.size, 0, none⟩)]) hp.S
          clear hp hK
          go_simp
          exact hk
        · intro a wu γ nph K hp hK
          obtain ⟨e13a, e13b⟩ := hp.old_ 13 (.pointer (some ⟨b5_9, 0, none⟩))
          have hk := hK.pure (.pointer (some ⟨b5_9, 2, none⟩)) hp.S
          clear hp hK
          go_simp
          exact hk
        · intro a wu γ nph K hp hK
          obtain ⟨e56a, e56b⟩ := hp.dep_ 56 2 (.pointer (some ⟨b5_9, 2, none⟩))
          have hS : Sp wz5 b (fun _ => ((fun k => most (n + k)) 1)) [w.heap.size + 1 + 1 + 1] CL nph wu := hp.S
          have c11 := hS.at_ 11 ⟨b5_9, 2, none⟩ (.int .i32 (y2).v) (by rw [hCL]; rfl)
          have hk := hK.pure (.int .i32 (y2).v) hp.S
          clear hp hK hS
          go_simp
          exact hk
        · intro a wu γ nph K hp hK
          obtain ⟨e55a, e55b⟩ := hp.dep_ 55 1 (.func (.func 112) #[] #[.pointer (some ⟨w.heap.size, 0, none⟩)])
          obtain ⟨e57a, e57b⟩ := hp.dep_ 57 3 (.int .i32 (y2).v)
          have hS : Sp wz5 b (fun _ => ((fun k => most (n + k)) 1)) [w.heap.size + 1 + 1 + 1] CL nph wu := hp.S
          have c0 := hS.at_ 0 ⟨w.heap.size, 0, none⟩ (.iface 74 (.pointer (some ⟨b, 0, none⟩))) (by rw [hCL]; rfl)
          have hk := hK.call (.int .i32 (negW (y2)).v)
          clear hp hK
          go_simp
          refine (wfield2_calls _ _ (y2) _ c0).mono ?_
          rintro e w7 ⟨rfl, hcX⟩
          exact hk _ (hS.call hcX) (Reg.keep_callp _ rfl hS hcX)
        · intro a wu γ nph K hp hK
          obtain ⟨e3a, e3b⟩ := hp.old_ 3 (.pointer (some ⟨w.heap.size, 0, none⟩))
          have hS : Sp wz5 b (fun _ => ((fun k => most (n + k)) 1)) [w.heap.size + 1 + 1 + 1] CL nph wu := hp.S
          have c0 := hS.at_ 0 ⟨w.heap.size, 0, none⟩ (.iface 74 (.pointer (some ⟨b, 0, none⟩))) (by rw [hCL]; rfl)
          have hk := hK.pure (.agg #[.iface 74 (.pointer (some ⟨b, 0, none⟩))]) hp.S
          clear hp hK hS
          go_simp
          exact hk
        · intro a wu γ nph K hp hK
          obtain ⟨e13a, e13b⟩ := hp.old_ 13 (.pointer (some ⟨b5_9, 0, none⟩))
          have hk := hK.pure (.pointer (some ⟨b5_9, 1, none⟩)) hp.S
          clear hp hK
          go_simp
          exact hk
        · intro a wu γ nph K hp hK
          obtain ⟨e60a, e60b⟩ := hp.dep_ 60 6 (.pointer (some ⟨b5_9, 1, none⟩))
          have hS : Sp wz5 b (fun _ => ((fun k => most (n + k)) 1)) [w.heap.size + 1 + 1 + 1] CL nph wu := hp.S
          have c10 := hS.at_ 10 ⟨b5_9, 1, none⟩ (.int .i32 (y1).v) (by rw [hCL]; rfl)
          have hk := hK.pure (.int .i32 (y1).v) hp.S
          clear hp hK hS
          go_simp
          exact hk
        · intro a wu γ nph K hp hK
          obtain ⟨e12a, e12b⟩ := hp.old_ 12 (.pointer (some ⟨b5_8, 0, none⟩))
          have hk := hK.pure (.pointer (some ⟨b5_8, 3, none⟩)) hp.S
          clear hp hK
          go_simp
          exact hk
        · intro a wu γ nph K hp hK
          obtain ⟨e62a, e62b⟩ := hp.dep_ 62 8 (.pointer (some ⟨b5_8, 3, none⟩))
          have hS : Sp wz5 b (fun _ => ((fun k => most (n + k)) 1)) [w.heap.size + 1 + 1 + 1] CL nph wu := hp.S
          have c8 := hS.at_ 8 ⟨b5_8, 3, none⟩ (.int .i32 (x3).v) (by rw [hCL]; rfl)
          have hk := hK.pure (.int .i32 (x3).v) hp.S
          clear hp hK hS
          go_simp
          exact hk
        · intro a wu γ nph K hp hK
          obtain ⟨e63a, e63b⟩ := hp.dep_ 63 9 (.int .i32 (x3).v)
          have hk := hK.new 21 [.int .i32 (x3).v] (fun g => .slice (some ⟨g, 0, none⟩) 1 1)
          clear hp hK
          go_simp
          exact hk
        · intro a wu γ nph K hp hK
          obtain ⟨e59a, e59b⟩ := hp.dep_ 59 5 (.agg #[.iface 74 (.pointer (some ⟨b, 0, none⟩))])
          obtain ⟨e61a, e61b⟩ := hp.dep_ 61 7 (.int .i32 (y1).v)
          obtain ⟨e64a, e64b⟩ := hp.dep_ 64 10 (.slice (some ⟨γ 10, 0, none⟩) 1 1)
          have hS : Sp wz5 b (fun _ => ((fun k => most (n + k)) 1)) [w.heap.size + 1 + 1 + 1] CL nph wu := hp.S
          have nb10 : Blk wu (γ 10) 21 [.int .i32 (x3).v] := (hp.blk_ 10 (T := 21) (c := [.int .i32 (x3).v])).1
          have hk := hK.call (.int .i32 (lessW (y1) [x3]).v)
          clear hp hK
          go_simp
          refine (wless_calls _ _ [x3] _ _ (Sl.blk' (show Blk wu (γ 10) 21 (wds [x3]) from nb10) rfl (Nat.le_refl _)) (by simp)).mono ?_
          rintro e w7 ⟨rfl, hcX⟩
          exact hk _ (hS.call hcX) (Reg.keep_callp _ rfl hS hcX)
        · intro a wu γ nph K hp hK
          obtain ⟨e12a, e12b⟩ := hp.old_ 12 (.pointer (some ⟨b5_8, 0, none⟩))
          have hk := hK.pure (.pointer (some ⟨b5_8, 2, none⟩)) hp.S
          clear hp hK
          go_simp
          exact hk
        · intro a wu γ nph K hp hK
          obtain ⟨e66a, e66b⟩ := hp.dep_ 66 12 (.pointer (some ⟨b5_8, 2, none⟩))
          have hS : Sp wz5 b (fun _ => ((fun k => most (n + k)) 1)) [w.heap.size + 1 + 1 + 1] CL nph wu := hp.S
          have c7 := hS.at_ 7 ⟨b5_8, 2, none⟩ (.int .i32 (x2).v) (by rw [hCL]; rfl)
          have hk := hK.pure (.int .i32 (x2).v) hp.S
          clear hp hK hS
          go_simp
          exact hk
        · intro a wu γ nph K hp hK
          obtain ⟨e54a, e54b⟩ := hp.dep_ 54 0 (.func (.func 111) #[] #[.pointer (some ⟨w.heap.size, 0, none⟩), .pointer (some ⟨w.heap.size + 1 + 1 + 1 + 1, 0, none⟩), .pointer (some ⟨bo4, 0, none⟩)])
          obtain ⟨e58a, e58b⟩ := hp.dep_ 58 4 (.int .i32 (negW (y2)).v)
          obtain ⟨e65a, e65b⟩ := hp.dep_ 65 11 (.int .i32 (lessW (y1) [x3]).v)
          obtain ⟨e67a, e67b⟩ := hp.dep_ 67 13 (.int .i32 (x2).v)
          have hS : Sp wz5 b (fun _ => ((fun k => most (n + k)) 1)) [w.heap.size + 1 + 1 + 1] CL nph wu := hp.S
          have c0 := hS.at_ 0 ⟨w.heap.size, 0, none⟩ (.iface 74 (.pointer (some ⟨b, 0, none⟩))) (by rw [hCL]; rfl)
          have c1 := hS.at_ 1 ⟨w.heap.size + 1 + 1 + 1 + 1, 0, none⟩ (.func (.func 92) #[.agg #[.iface 74 (.pointer (some ⟨b, 0, none⟩))]] #[]) (by rw [hCL]; rfl)
          have c2 := hS.at_ 2 ⟨bo4, 0, none⟩ (.int .i32 (e0).v) (by rw [hCL]; rfl)
          have c3 := hS.at_ 3 ⟨bo4, 1, none⟩ (.int .i32 (e1).v) (by rw [hCL]; rfl)
          have c4 := hS.at_ 4 ⟨bo4, 2, none⟩ (.int .i32 (e2).v) (by rw [hCL]; rfl)
          have hk := hK.call (.int .i32 (sumW (negW (y2)) (lessW (y1) [x3]) (x2) (e0) (e1) (e2)).v)
          clear hp hK
          go_simp
          refine (wfield1_calls _ _ _ _ (negW (y2)) (lessW (y1) [x3]) (x2) _ _ _ _ c0 c1 c2 c3 c4).mono ?_
          rintro e w7 ⟨rfl, hcX⟩
          exact hk _ (hS.call hcX) (Reg.keep_callp _ rfl hS hcX)
        · intro a wu γ nph K hp hK
          obtain ⟨e14a, e14b⟩ := hp.old_ 14 (.func (.func 111) #[] #[.pointer (some ⟨w.heap.size, 0, none⟩), .pointer (some ⟨w.heap.size + 1 + 1 + 1 + 1, 0, none⟩), .pointer (some ⟨bo4, 0, none⟩)])
          have hk := hK.pure (.func (.func 111) #[] #[.pointer (some ⟨w.heap.size, 0, none⟩), .pointer (some ⟨w.heap.size + 1 + 1 + 1 + 1, 0, none⟩), .pointer (some ⟨bo4, 0, none⟩)]) hp.S
          clear hp hK
          go_simp
          exact hk
        · intro a wu γ nph K hp hK
          obtain ⟨e13a, e13b⟩ := hp.old_ 13 (.pointer (some ⟨b5_9, 0, none⟩))
          have hk := hK.pure (.pointer (some ⟨b5_9, 3, none⟩)) hp.S
          clear hp hK
          go_simp
          exact hk
        · intro a wu γ nph K hp hK
          obtain ⟨e70a, e70b⟩ := hp.dep_ 70 16 (.pointer (some ⟨b5_9, 3, none⟩))
          have hS : Sp wz5 b (fun _ => ((fun k => most (n + k)) 1)) [w.heap.size + 1 + 1 + 1] CL nph wu := hp.S
          have c12 := hS.at_ 12 ⟨b5_9, 3, none⟩ (.int .i32 (y3).v) (by rw [hCL]; rfl)
          have hk := hK.pure (.int .i32 (y3).v) hp.S
          clear hp hK hS
          go_simp
          exact hk
        · intro a wu γ nph K hp hK
          obtain ⟨e3a, e3b⟩ := hp.old_ 3 (.pointer (some ⟨w.heap.size, 0, none⟩))
          have hS : Sp wz5 b (fun _ => ((fun k => most (n + k)) 1)) [w.heap.size + 1 + 1 + 1] CL nph wu := hp.S
          have c0 := hS.at_ 0 ⟨w.heap.size, 0, none⟩ (.iface 74 (.pointer (some ⟨b, 0, none⟩))) (by rw [hCL]; rfl)
          have hk := hK.pure (.agg #[.iface 74 (.pointer (some ⟨b, 0, none⟩))]) hp.S
          clear hp hK hS
          go_simp
          exact hk
        · intro a wu γ nph K hp hK
          obtain ⟨e12a, e12b⟩ := hp.old_ 12 (.pointer (some ⟨b5_8, 0, none⟩))
          have hk := hK.pure (.pointer (some ⟨b5_8, 2, none⟩)) hp.S
          clear hp hK
          go_simp
          exact hk
        · intro a wu γ nph K hp hK
          obtain ⟨e73a, e73b⟩ := hp.dep_ 73 19 (.pointer (some ⟨b5_8, 2, none⟩))
          have hS : Sp wz5 b (fun _ => ((fun k => most (n + k)) 1)) [w.heap.size + 1 + 1 + 1] CL nph wu := hp.S
          have c7 := hS.at_ 7 ⟨b5_8, 2, none⟩ (.int .i32 (x2).v) (by rw [hCL]; rfl)
          have hk := hK.pure (.int .i32 (x2).v) hp.S
          clear hp hK hS
          go_simp
          exact hk
        · intro a wu γ nph K hp hK
          obtain ⟨e13a, e13b⟩ := hp.old_ 13 (.pointer (some ⟨b5_9, 0, none⟩))
          have hk := hK.pure (.pointer (some ⟨b5_9, 0, none⟩)) hp.S
          clear hp hK
          go_simp
          exact hk
        · intro a wu γ nph K hp hK
          obtain ⟨e75a, e75b⟩ := hp.dep_ 75 21 (.pointer (some ⟨b5_9, 0, none⟩))
          have hS : Sp wz5 b (fun _ => ((fun k => most (n + k)) 1)) [w.heap.size + 1 + 1 + 1] CL nph wu := hp.S
          have c9 := hS.at_ 9 ⟨b5_9, 0, none⟩ (.int .i32 (y0).v) (by rw [hCL]; rfl)
          have hk := hK.pure (.int .i32 (y0).v) hp.S
          clear hp hK hS
          go_simp
          exact hk
        · intro a wu γ nph K hp hK
          obtain ⟨e76a, e76b⟩ := hp.dep_ 76 22 (.int .i32 (y0).v)
          have hk := hK.new 21 [.int .i32 (y0).v] (fun g => .slice (some ⟨g, 0, none⟩) 1 1)
          clear hp hK
          go_simp
          exact hk
        · intro a wu γ nph K hp hK
          obtain ⟨e72a, e72b⟩ := hp.dep_ 72 18 (.agg #[.iface 74 (.pointer (some ⟨b, 0, none⟩))])
          obtain ⟨e74a, e74b⟩ := hp.dep_ 74 20 (.int .i32 (x2).v)
          obtain ⟨e77a, e77b⟩ := hp.dep_ 77 23 (.slice (some ⟨γ 23, 0, none⟩) 1 1)
          have hS : Sp wz5 b (fun _ => ((fun k => most (n + k)) 1)) [w.heap.size + 1 + 1 + 1] CL nph wu := hp.S
          have nb23 : Blk wu (γ 23) 21 [.int .i32 (y0).v] := (hp.blk_ 23 (T := 21) (c := [.int .i32 (y0).v])).1
          have hk := hK.call (.int .i32 (moreW (x2) [y0]).v)
          clear hp hK
          go_simp
          refine (wmore_calls _ _ [y0] _ _ (Sl.blk' (show Blk wu (γ 23) 21 (wds [y0]) from nb23) rfl (Nat.le_refl _)) (by simp)).mono ?_
          rintro e w7 ⟨rfl, hcX⟩
          exact hk _ (hS.call hcX) (Reg.keep_callp _ rfl hS hcX)
        · intro a wu γ nph K hp hK
          obtain ⟨e3a, e3b⟩ := hp.old_ 3 (.pointer (some ⟨w.heap.size, 0, none⟩))
          have hS : Sp wz5 b (fun _ => ((fun k => most (n + k)) 1)) [w.heap.size + 1 + 1 + 1] CL nph wu := hp.S
          have c0 := hS.at_ 0 ⟨w.heap.size, 0, none⟩ (.iface 74 (.pointer (some ⟨b, 0, none⟩))) (by rw [hCL]; rfl)
          have hk := hK.pure (.agg #[.iface 74 (.pointer (some ⟨b, 0, none⟩))]) hp.S
          clear hp hK hS
          go_simp
          exact hk
        · intro a wu γ nph K hp hK
          obtain ⟨e12a, e12b⟩ := hp.old_ 12 (.pointer (some ⟨b5_8, 0, none⟩))
          have hk := hK.pure (.pointer (some ⟨b5_8, 3, none⟩)) hp.S
          clear hp hK
          go_simp
          exact hk
        · intro a wu γ nph K hp hK
          obtain ⟨e80a, e80b⟩ := hp.dep_ 80 26 (.pointer (some ⟨b5_8, 3, none⟩))
          have hS : Sp wz5 b (fun _ => ((fun k => most (n + k)) 1)) [w.heap.size + 1 + 1 + 1] CL nph wu := hp.S
          have c8 := hS.at_ 8 ⟨b5_8, 3, none⟩ (.int .i32 (x3).v) (by rw [hCL]; rfl)
          have hk := hK.pure (.int .i32 (x3).v) hp.S
          clear hp hK hS
          go_simp
          exact hk
        · intro a wu γ nph K hp hK
          obtain ⟨e13a, e13b⟩ := hp.old_ 13 (.pointer (some ⟨b5_9, 0, none⟩))
          have hk := hK.pure (.pointer (some ⟨b5_9, 1, none⟩)) hp.S
          clear hp hK
          go_simp
          exact hk
        · intro a wu γ nph K hp hK
          obtain ⟨e82a, e82b⟩ := hp.dep_ 82 28 (.pointer (some ⟨b5_9, 1, none⟩))
          have hS : Sp wz5 b (fun _ => ((fun k => most (n + k)) 1)) [w.heap.size + 1 + 1 + 1] CL nph wu := hp.S
          have c10 := hS.at_ 10 ⟨b5_9, 1, none⟩ (.int .i32 (y1).v) (by rw [hCL]; rfl)
          have hk := hK.pure (.int .i32 (y1).v) hp.S
          clear hp hK hS
          go_simp
          exact hk
        · intro a wu γ nph K hp hK
          obtain ⟨e13a, e13b⟩ := hp.old_ 13 (.pointer (some ⟨b5_9, 0, none⟩))
          have hk := hK.pure (.pointer (some ⟨b5_9, 1, none⟩)) hp.S
          clear hp hK
          go_simp
          exact hk
        · intro a wu γ nph K hp hK
          obtain ⟨e84a, e84b⟩ := hp.dep_ 84 30 (.pointer (some ⟨b5_9, 1, none⟩))
          have hS : Sp wz5 b (fun _ => ((fun k => most (n + k)) 1)) [w.heap.size + 1 + 1 + 1] CL nph wu := hp.S
          have c10 := hS.at_ 10 ⟨b5_9, 1, none⟩ (.int .i32 (y1).v) (by rw [hCL]; rfl)
          have hk := hK.pure (.int .i32 (y1).v) hp.S
          clear hp hK hS
          go_simp
          exact hk
        · intro a wu γ nph K hp hK
          obtain ⟨e83a, e83b⟩ := hp.dep_ 83 29 (.int .i32 (y1).v)
          obtain ⟨e85a, e85b⟩ := hp.dep_ 85 31 (.int .i32 (y1).v)
          have hk := hK.new 21 [.int .i32 (y1).v, .int .i32 (y1).v] (fun g => .slice (some ⟨g, 0, none⟩) 2 2)
          clear hp hK
          go_simp
          exact hk
        · intro a wu γ nph K hp hK
          obtain ⟨e79a, e79b⟩ := hp.dep_ 79 25 (.agg #[.iface 74 (.pointer (some ⟨b, 0, none⟩))])
          obtain ⟨e81a, e81b⟩ := hp.dep_ 81 27 (.int .i32 (x3).v)
          obtain ⟨e86a, e86b⟩ := hp.dep_ 86 32 (.slice (some ⟨γ 32, 0, none⟩) 2 2)
          have hS : Sp wz5 b (fun _ => ((fun k => most (n + k)) 1)) [w.heap.size + 1 + 1 + 1] CL nph wu := hp.S
          have nb32 : Blk wu (γ 32) 21 [.int .i32 (y1).v, .int .i32 (y1).v] := (hp.blk_ 32 (T := 21) (c := [.int .i32 (y1).v, .int .i32 (y1).v])).1
          have hk := hK.call (.int .i32 (lessW (x3) [y1, y1]).v)
          clear hp hK
          go_simp
          refine (wless_calls _ _ [y1, y1] _ _ (Sl.blk' (show Blk wu (γ 32) 21 (wds [y1, y1]) from nb32) rfl (Nat.le_refl _)) (by simp)).mono ?_
          rintro e w7 ⟨rfl, hcX⟩
          exact hk _ (hS.call hcX) (Reg.keep_callp _ rfl hS hcX)
        · intro a wu γ nph K hp hK
          obtain ⟨e69a, e69b⟩ := hp.dep_ 69 15 (.func (.func 111) #[] #[.pointer (some ⟨w.heap.size, 0, none⟩), .pointer (some ⟨w.heap.size + 1 + 1 + 1 + 1, 0, none⟩), .pointer (some ⟨bo4, 0, none⟩)])
          obtain ⟨e71a, e71b⟩ := hp.dep_ 71 17 (.int .i32 (y3).v)
          obtain ⟨e78a, e78b⟩ := hp.dep_ 78 24 (.int .i32 (moreW (x2) [y0]).v)
          obtain ⟨e87a, e87b⟩ := hp.dep_ 87 33 (.int .i32 (lessW (x3) [y1, y1]).v)
          have hS : Sp wz5 b (fun _ => ((fun k => most (n + k)) 1)) [w.heap.size + 1 + 1 + 1] CL nph wu := hp.S
          have c0 := hS.at_ 0 ⟨w.heap.size, 0, none⟩ (.iface 74 (.pointer (some ⟨b, 0, none⟩))) (by rw [hCL]; rfl)
          have c1 := hS.at_ 1 ⟨w.heap.size + 1 + 1 + 1 + 1, 0, none⟩ (.func (.func 92) #[.agg #[.iface 74 (.pointer (some ⟨b, 0, none⟩))]] #[]) (by rw [hCL]; rfl)
          have c2 := hS.at_ 2 ⟨bo4, 0, none⟩ (.int .i32 (e0).v) (by rw [hCL]; rfl)
          have c3 := hS.at_ 3 ⟨bo4, 1, none⟩ (.int .i32 (e1).v) (by rw [hCL]; rfl)
          have c4 := hS.at_ 4 ⟨bo4, 2, none⟩ (.int .i32 (e2).v) (by rw [hCL]; rfl)
          have hk := hK.call (.int .i32 (sumW (y3) (moreW (x2) [y0]) (lessW (x3) [y1, y1]) (e0) (e1) (e2)).v)
          clear hp hK
          go_simp
          refine (wfield1_calls _ _ _ _ (y3) (moreW (x2) [y0]) (lessW (x3) [y1, y1]) _ _ _ _ c0 c1 c2 c3 c4).mono ?_
          rintro e w7 ⟨rfl, hcX⟩
          exact hk _ (hS.call hcX) (Reg.keep_callp _ rfl hS hcX)
        · intro a wu γ nph K hp hK
          obtain ⟨e14a, e14b⟩ := hp.old_ 14 (.func (.func 111) #[] #[.pointer (some ⟨w.heap.size, 0, none⟩), .pointer (some ⟨w.heap.size + 1 + 1 + 1 + 1, 0, none⟩), .pointer (some ⟨bo4, 0, none⟩)])
          have hk := hK.pure (.func (.func 111) #[] #[.pointer (some ⟨w.heap.size, 0, none⟩), .pointer (some ⟨w.heap.size + 1 + 1 + 1 + 1, 0, none⟩), .pointer (some ⟨bo4, 0, none⟩)]) hp.S
          clear hp hK
          go_simp
          exact hk
        · intro a wu γ nph K hp hK
          obtain ⟨e15a, e15b⟩ := hp.old_ 15 (.func (.func 112) #[] #[.pointer (some ⟨w.heap.size, 0, none⟩)])
          have hk := hK.pure (.func (.func 112) #[] #[.pointer (some ⟨w.heap.size, 0, none⟩)]) hp.S
          clear hp hK
          go_simp
          exact hk
        · intro a wu γ nph K hp hK
          obtain ⟨e3a, e3b⟩ := hp.old_ 3 (.pointer (some ⟨w.heap.size, 0, none⟩))
          have hS : Sp wz5 b (fun _ => ((fun k => most (n + k)) 1)) [w.heap.size + 1 + 1 + 1] CL nph wu := hp.S
          have c0 := hS.at_ 0 ⟨w.heap.size, 0, none⟩ (.iface 74 (.pointer (some ⟨b, 0, none⟩))) (by rw [hCL]; rfl)
          have hk := hK.pure (.agg #[.iface 74 (.pointer (some ⟨b, 0, none⟩))]) hp.S
          clear hp hK hS
          go_simp
          exact hk
        · intro a wu γ nph K hp hK
          obtain ⟨e12a, e12b⟩ := hp.old_ 12 (.pointer (some ⟨b5_8, 0, none⟩))
          have hk := hK.pure (.pointer (some ⟨b5_8, 2, none⟩)) hp.S
          clear hp hK
          go_simp
          exact hk
        · intro a wu γ nph K hp hK
          obtain ⟨e92a, e92b⟩ := hp.dep_ 92 38 (.pointer (some ⟨b5_8, 2, none⟩))
          have hS : Sp wz5 b (fun _ => ((fun k => most (n + k)) 1)) [w.heap.size + 1 + 1 + 1] CL nph wu := hp.S
          have c7 := hS.at_ 7 ⟨b5_8, 2, none⟩ (.int .i32 (x2).v) (by rw [hCL]; rfl)
          have hk := hK.pure (.int .i32 (x2).v) hp.S
          clear hp hK hS
          go_simp
          exact hk
        · intro a wu γ nph K hp hK
          obtain ⟨e12a, e12b⟩ := hp.old_ 12 (.pointer (some ⟨b5_8, 0, none⟩))
          have hk := hK.pure (.pointer (some ⟨b5_8, 2, none⟩)) hp.S
          clear hp hK
          go_simp
          exact hk
        · intro a wu γ nph K hp hK
          obtain ⟨e94a, e94b⟩ := hp.dep_ 94 40 (.pointer (some ⟨b5_8, 2, none⟩))
          have hS : Sp wz5 b (fun _ => ((fun k => most (n + k)) 1)) [w.heap.size + 1 + 1 + 1] CL nph wu := hp.S
          have c7 := hS.at_ 7 ⟨b5_8, 2, none⟩ (.int .i32 (x2).v) (by rw [hCL]; rfl)
          have hk := hK.pure (.int .i32 (x2).v) hp.S
          clear hp hK hS
          go_simp
          exact hk
        · intro a wu γ nph K hp hK
          obtain ⟨e13a, e13b⟩ := hp.old_ 13 (.pointer (some ⟨b5_9, 0, none⟩))
          have hk := hK.pure (.pointer (some ⟨b5_9, 0, none⟩)) hp.S
          clear hp hK
          go_simp
          exact hk
        · intro a wu γ nph K hp hK
          obtain ⟨e96a, e96b⟩ := hp.dep_ 96 42 (.pointer (some ⟨b5_9, 0, none⟩))
          have hS : Sp wz5 b (fun _ => ((fun k => most (n + k)) 1)) [w.heap.size + 1 + 1 + 1] CL nph wu := hp.S
          have c9 := hS.at_ 9 ⟨b5_9, 0, none⟩ (.int .i32 (y0).v) (by rw [hCL]; rfl)
          have hk := hK.pure (.int .i32 (y0).v) hp.S
          clear hp hK hS
          go_simp
          exact hk
        · intro a wu γ nph K hp hK
          obtain ⟨e95a, e95b⟩ := hp.dep_ 95 41 (.int .i32 (x2).v)
          obtain ⟨e97a, e97b⟩ := hp.dep_ 97 43 (.int .i32 (y0).v)
          have hk := hK.new 21 [.int .i32 (x2).v, .int .i32 (y0).v] (fun g => .slice (some ⟨g, 0, none⟩) 2 2)
          clear hp hK
          go_simp
          exact hk
        · intro a wu γ nph K hp hK
          obtain ⟨e91a, e91b⟩ := hp.dep_ 91 37 (.agg #[.iface 74 (.pointer (some ⟨b, 0, none⟩))])
          obtain ⟨e93a, e93b⟩ := hp.dep_ 93 39 (.int .i32 (x2).v)
          obtain ⟨e98a, e98b⟩ := hp.dep_ 98 44 (.slice (some ⟨γ 44, 0, none⟩) 2 2)
          have hS : Sp wz5 b (fun _ => ((fun k => most (n + k)) 1)) [w.heap.size + 1 + 1 + 1] CL nph wu := hp.S
          have nb44 : Blk wu (γ 44) 21 [.int .i32 (x2).v, .int .i32 (y0).v] := (hp.blk_ 44 (T := 21) (c := [.int .i32 (x2).v, .int .i32 (y0).v])).1
          have hk := hK.call (.int .i32 (moreW (x2) [x2, y0]).v)
          clear hp hK
          go_simp
          refine (wmore_calls _ _ [x2, y0] _ _ (Sl.blk' (show Blk wu (γ 44) 21 (wds [x2, y0]) from nb44) rfl (Nat.le_refl _)) (by simp)).mono ?_
          rintro e w7 ⟨rfl, hcX⟩
          exact hk _ (hS.call hcX) (Reg.keep_callp _ rfl hS hcX)
        · intro a wu γ nph K hp hK
          obtain ⟨e90a, e90b⟩ := hp.dep_ 90 36 (.func (.func 112) #[] #[.pointer (some ⟨w.heap.size, 0, none⟩)])
          obtain ⟨e99a, e99b⟩ := hp.dep_ 99 45 (.int .i32 (moreW (x2) [x2, y0]).v)
          have hS : Sp wz5 b (fun _ => ((fun k => most (n + k)) 1)) [w.heap.size + 1 + 1 + 1] CL nph wu := hp.S
          have c0 := hS.at_ 0 ⟨w.heap.size, 0, none⟩ (.iface 74 (.pointer (some ⟨b, 0, none⟩))) (by rw [hCL]; rfl)
          have hk := hK.call (.int .i32 (negW (moreW (x2) [x2, y0])).v)
          clear hp hK
          go_simp
          refine (wfield2_calls _ _ (moreW (x2) [x2, y0]) _ c0).mono ?_
          rintro e w7 ⟨rfl, hcX⟩
          exact hk _ (hS.call hcX) (Reg.keep_callp _ rfl hS hcX)
        · intro a wu γ nph K hp hK
          obtain ⟨e3a, e3b⟩ := hp.old_ 3 (.pointer (some ⟨w.heap.size, 0, none⟩))
          have hS : Sp wz5 b (fun _ => ((fun k => most (n + k)) 1)) [w.heap.size + 1 + 1 + 1] CL nph wu := hp.S
          have c0 := hS.at_ 0 ⟨w.heap.size, 0, none⟩ (.iface 74 (.pointer (some ⟨b, 0, none⟩))) (by rw [hCL]; rfl)
          have hk := hK.pure (.agg #[.iface 74 (.pointer (some ⟨b, 0, none⟩))]) hp.S
          clear hp hK hS
          go_simp
          exact hk
        · intro a wu γ nph K hp hK
          obtain ⟨e12a, e12b⟩ := hp.old_ 12 (.pointer (some ⟨b5_8, 0, none⟩))
          have hk := hK.pure (.pointer (some ⟨b5_8, 1, none⟩)) hp.S
          clear hp hK
          go_simp
          exact hk
        · intro a wu γ nph K hp hK
          obtain ⟨e102a, e102b⟩ := hp.dep_ 102 48 (.pointer (some ⟨b5_8, 1, none⟩))
          have hS : Sp wz5 b (fun _ => ((fun k => most (n + k)) 1)) [w.heap.size + 1 + 1 + 1] CL nph wu := hp.S
          have c6 := hS.at_ 6 ⟨b5_8, 1, none⟩ (.int .i32 (x1).v) (by rw [hCL]; rfl)
          have hk := hK.pure (.int .i32 (x1).v) hp.S
          clear hp hK hS
          go_simp
          exact hk
        · intro a wu γ nph K hp hK
          obtain ⟨e13a, e13b⟩ := hp.old_ 13 (.pointer (some ⟨b5_9, 0, none⟩))
          have hk := hK.pure (.pointer (some ⟨b5_9, 3, none⟩)) hp.S
          clear hp hK
          go_simp
          exact hk
        · intro a wu γ nph K hp hK
          obtain ⟨e104a, e104b⟩ := hp.dep_ 104 50 (.pointer (some ⟨b5_9, 3, none⟩))
          have hS : Sp wz5 b (fun _ => ((fun k => most (n + k)) 1)) [w.heap.size + 1 + 1 + 1] CL nph wu := hp.S
          have c12 := hS.at_ 12 ⟨b5_9, 3, none⟩ (.int .i32 (y3).v) (by rw [hCL]; rfl)
          have hk := hK.pure (.int .i32 (y3).v) hp.S
          clear hp hK hS
          go_simp
          exact hk
        · intro a wu γ nph K hp hK
          obtain ⟨e105a, e105b⟩ := hp.dep_ 105 51 (.int .i32 (y3).v)
          have hk := hK.new 21 [.int .i32 (y3).v] (fun g => .slice (some ⟨g, 0, none⟩) 1 1)
          clear hp hK
          go_simp
          exact hk
        · intro a wu γ nph K hp hK
          obtain ⟨e101a, e101b⟩ := hp.dep_ 101 47 (.agg #[.iface 74 (.pointer (some ⟨b, 0, none⟩))])
          obtain ⟨e103a, e103b⟩ := hp.dep_ 103 49 (.int .i32 (x1).v)
          obtain ⟨e106a, e106b⟩ := hp.dep_ 106 52 (.slice (some ⟨γ 52, 0, none⟩) 1 1)
          have hS : Sp wz5 b (fun _ => ((fun k => most (n + k)) 1)) [w.heap.size + 1 + 1 + 1] CL nph wu := hp.S
          have nb52 : Blk wu (γ 52) 21 [.int .i32 (y3).v] := (hp.blk_ 52 (T := 21) (c := [.int .i32 (y3).v])).1
          have hk := hK.call (.int .i32 (moreW (x1) [y3]).v)
          clear hp hK
          go_simp
          refine (wmore_calls _ _ [y3] _ _ (Sl.blk' (show Blk wu (γ 52) 21 (wds [y3]) from nb52) rfl (Nat.le_refl _)) (by simp)).mono ?_
          rintro e w7 ⟨rfl, hcX⟩
          exact hk _ (hS.call hcX) (Reg.keep_callp _ rfl hS hcX)
        · intro a wu γ nph K hp hK
          obtain ⟨e3a, e3b⟩ := hp.old_ 3 (.pointer (some ⟨w.heap.size, 0, none⟩))
          have hS : Sp wz5 b (fun _ => ((fun k => most (n + k)) 1)) [w.heap.size + 1 + 1 + 1] CL nph wu := hp.S
          have c0 := hS.at_ 0 ⟨w.heap.size, 0, none⟩ (.iface 74 (.pointer (some ⟨b, 0, none⟩))) (by rw [hCL]; rfl)
          have hk := hK.pure (.agg #[.iface 74 (.pointer (some ⟨b, 0, none⟩))]) hp.S
          clear hp hK hS
          go_simp
          exact hk
        · intro a wu γ nph K hp hK
          obtain ⟨e12a, e12b⟩ := hp.old_ 12 (.pointer (some ⟨b5_8, 0, none⟩))
          have hk := hK.pure (.pointer (some ⟨b5_8, 0, none⟩)) hp.S
          clear hp hK
          go_simp
          exact hk
        · intro a wu γ nph K hp hK
          obtain ⟨e109a, e109b⟩ := hp.dep_ 109 55 (.pointer (some ⟨b5_8, 0, none⟩))
          have hS : Sp wz5 b (fun _ => ((fun k => most (n + k)) 1)) [w.heap.size + 1 + 1 + 1] CL nph wu := hp.S
          have c5 := hS.at_ 5 ⟨b5_8, 0, none⟩ (.int .i32 (x0).v) (by rw [hCL]; rfl)
          have hk := hK.pure (.int .i32 (x0).v) hp.S
          clear hp hK hS
          go_simp
          exact hk
        · intro a wu γ nph K hp hK
          obtain ⟨e13a, e13b⟩ := hp.old_ 13 (.pointer (some ⟨b5_9, 0, none⟩))
          have hk := hK.pure (.pointer (some ⟨b5_9, 2, none⟩)) hp.S
          clear hp hK
          go_simp
          exact hk
        · intro a wu γ nph K hp hK
          obtain ⟨e111a, e111b⟩ := hp.dep_ 111 57 (.pointer (some ⟨b5_9, 2, none⟩))
          have hS : Sp wz5 b (fun _ => ((fun k => most (n + k)) 1)) [w.heap.size + 1 + 1 + 1] CL nph wu := hp.S
          have c11 := hS.at_ 11 ⟨b5_9, 2, none⟩ (.int .i32 (y2).v) (by rw [hCL]; rfl)
          have hk := hK.pure (.int .i32 (y2).v) hp.S
          clear hp hK hS
          go_simp
          exact hk
        · intro a wu γ nph K hp hK
          obtain ⟨e13a, e13b⟩ := hp.old_ 13 (.pointer (some ⟨b5_9, 0, none⟩))
          have hk := hK.pure (.pointer (some ⟨b5_9, 2, none⟩)) hp.S
          clear hp hK
          go_simp
          exact hk
        · intro a wu γ nph K hp hK
          obtain ⟨e113a, e113b⟩ := hp.dep_ 113 59 (.pointer (some ⟨b5_9, 2, none⟩))
          have hS : Sp wz5 b (fun _ => ((fun k => most (n + k)) 1)) [w.heap.size + 1 + 1 + 1] CL nph wu := hp.S
          have c11 := hS.at_ 11 ⟨b5_9, 2, none⟩ (.int .i32 (y2).v) (by rw [hCL]; rfl)
          have hk := hK.pure (.int .i32 (y2).v) hp.S
          clear hp hK hS
          go_simp
          exact hk
        · intro a wu γ nph K hp hK
          obtain ⟨e112a, e112b⟩ := hp.dep_ 112 58 (.int .i32 (y2).v)
          obtain ⟨e114a, e114b⟩ := hp.dep_ 114 60 (.int .i32 (y2).v)
          have hk := hK.new 21 [.int .i32 (y2).v, .int .i32 (y2).v] (fun g => .slice (some ⟨g, 0, none⟩) 2 2)
          clear hp hK
          go_simp
          exact hk
        · intro a wu γ nph K hp hK
          obtain ⟨e108a, e108b⟩ := hp.dep_ 108 54 (.agg #[.iface 74 (.pointer (some ⟨b, 0, none⟩))])
          obtain ⟨e110a, e110b⟩ := hp.dep_ 110 56 (.int .i32 (x0).v)
          obtain ⟨e115a, e115b⟩ := hp.dep_ 115 61 (.slice (some ⟨γ 61, 0, none⟩) 2 2)
          have hS : Sp wz5 b (fun _ => ((fun k => most (n + k)) 1)) [w.heap.size + 1 + 1 + 1] CL nph wu := hp.S
          have nb61 : Blk wu (γ 61) 21 [.int .i32 (y2).v, .int .i32 (y2).v] := (hp.blk_ 61 (T := 21) (c := [.int .i32 (y2).v, .int .i32 (y2).v])).1
          have hk := hK.call (.int .i32 (lessW (x0) [y2, y2]).v)
          clear hp hK
          go_simp
          refine (wless_calls _ _ [y2, y2] _ _ (Sl.blk' (show Blk wu (γ 61) 21 (wds [y2, y2]) from nb61) rfl (Nat.le_refl _)) (by simp)).mono ?_
          rintro e w7 ⟨rfl, hcX⟩
          exact hk _ (hS.call hcX) (Reg.keep_callp _ rfl hS hcX)
        · intro a wu γ nph K hp hK
          obtain ⟨e89a, e89b⟩ := hp.dep_ 89 35 (.func (.func 111) #[] #[.pointer (some ⟨w.heap.size, 0, none⟩), .pointer (some ⟨w.heap.size + 1 + 1 + 1 + 1, 0, none⟩), .pointer (some ⟨bo4, 0, none⟩)])
          obtain ⟨e100a, e100b⟩ := hp.dep_ 100 46 (.int .i32 (negW (moreW (x2) [x2, y0])).v)
          obtain ⟨e107a, e107b⟩ := hp.dep_ 107 53 (.int .i32 (moreW (x1) [y3]).v)
          obtain ⟨e116a, e116b⟩ := hp.dep_ 116 62 (.int .i32 (lessW (x0) [y2, y2]).v)
          have hS : Sp wz5 b (fun _ => ((fun k => most (n + k)) 1)) [w.heap.size + 1 + 1 + 1] CL nph wu := hp.S
          have c0 := hS.at_ 0 ⟨w.heap.size, 0, none⟩ (.iface 74 (.pointer (some ⟨b, 0, none⟩))) (by rw [hCL]; rfl)
          have c1 := hS.at_ 1 ⟨w.heap.size + 1 + 1 + 1 + 1, 0, none⟩ (.func (.func 92) #[.agg #[.iface 74 (.pointer (some ⟨b, 0, none⟩))]] #[]) (by rw [hCL]; rfl)
          have c2 := hS.at_ 2 ⟨bo4, 0, none⟩ (.int .i32 (e0).v) (by rw [hCL]; rfl)
          have c3 := hS.at_ 3 ⟨bo4, 1, none⟩ (.int .i32 (e1).v) (by rw [hCL]; rfl)
          have c4 := hS.at_ 4 ⟨bo4, 2, none⟩ (.int .i32 (e2).v) (by rw [hCL]; rfl)
          have hk := hK.call (.int .i32 (sumW (negW (moreW (x2) [x2, y0])) (moreW (x1) [y3]) (lessW (x0) [y2, y2]) (e0) (e1) (e2)).v)
          clear hp hK
          go_simp
          refine (wfield1_calls _ _ _ _ (negW (moreW (x2) [x2, y0])) (moreW (x1) [y3]) (lessW (x0) [y2, y2]) _ _ _ _ c0 c1 c2 c3 c4).mono ?_
          rintro e w7 ⟨rfl, hcX⟩
          exact hk _ (hS.call hcX) (Reg.keep_callp _ rfl hS hcX)
        · intro a wu γ nph K hp hK
          obtain ⟨e14a, e14b⟩ := hp.old_ 14 (.func (.func 111) #[] #[.pointer (some ⟨w.heap.size, 0, none⟩), .pointer (some ⟨w.heap.size + 1 + 1 + 1 + 1, 0, none⟩), .pointer (some ⟨bo4, 0, none⟩)])
          have hk := hK.pure (.func (.func 111) #[] #[.pointer (some ⟨w.heap.size, 0, none⟩), .pointer (some ⟨w.heap.size + 1 + 1 + 1 + 1, 0, none⟩), .pointer (some ⟨bo4, 0, none⟩)]) hp.S
          clear hp hK
          go_simp
          exact hk
        · intro a wu γ nph K hp hK
          obtain ⟨e3a, e3b⟩ := hp.old_ 3 (.pointer (some ⟨w.heap.size, 0, none⟩))
          have hS : Sp wz5 b (fun _ => ((fun k => most (n + k)) 1)) [w.heap.size + 1 + 1 + 1] CL nph wu := hp.S
          have c0 := hS.at_ 0 ⟨w.heap.size, 0, none⟩ (.iface 74 (.pointer (some ⟨b, 0, none⟩))) (by rw [hCL]; rfl)
          have hk := hK.pure (.agg #[.iface 74 (.pointer (some ⟨b, 0, none⟩))]) hp.S
          clear hp hK hS
          go_simp
          exact hk
        · intro a wu γ nph K hp hK
          obtain ⟨e13a, e13b⟩ := hp.old_ 13 (.pointer (some ⟨b5_9, 0, none⟩))
          have hk := hK.pure (.pointer (some ⟨b5_9, 1, none⟩)) hp.S
          clear hp hK
          go_simp
          exact hk
        · intro a wu γ nph K hp hK
          obtain ⟨e120a, e120b⟩ := hp.dep_ 120 66 (.pointer (some ⟨b5_9, 1, none⟩))
          have hS : Sp wz5 b (fun _ => ((fun k => most (n + k)) 1)) [w.heap.size + 1 + 1 + 1] CL nph wu := hp.S
          have c10 := hS.at_ 10 ⟨b5_9, 1, none⟩ (.int .i32 (y1).v) (by rw [hCL]; rfl)
          have hk := hK.pure (.int .i32 (y1).v) hp.S
          clear hp hK hS
          go_simp
          exact hk
        · intro a wu γ nph K hp hK
          obtain ⟨e12a, e12b⟩ := hp.old_ 12 (.pointer (some ⟨b5_8, 0, none⟩))
          have hk := hK.pure (.pointer (some ⟨b5_8, 3, none⟩)) hp.S
          clear hp hK
          go_simp
          exact hk
        · intro a wu γ nph K hp hK
          obtain ⟨e122a, e122b⟩ := hp.dep_ 122 68 (.pointer (some ⟨b5_8, 3, none⟩))
          have hS : Sp wz5 b (fun _ => ((fun k => most (n + k)) 1)) [w.heap.size + 1 + 1 + 1] CL nph wu := hp.S
          have c8 := hS.at_ 8 ⟨b5_8, 3, none⟩ (.int .i32 (x3).v) (by rw [hCL]; rfl)
          have hk := hK.pure (.int .i32 (x3).v) hp.S
          clear hp hK hS
          go_simp
          exact hk
        · intro a wu γ nph K hp hK
          obtain ⟨e12a, e12b⟩ := hp.old_ 12 (.pointer (some ⟨b5_8, 0, none⟩))
          have hk := hK.pure (.pointer (some ⟨b5_8, 3, none⟩)) hp.S
          clear hp hK
          go_simp
          exact hk
        · intro a wu γ nph K hp hK
          obtain ⟨e124a, e124b⟩ := hp.dep_ 124 70 (.pointer (some ⟨b5_8, 3, none⟩))
          have hS : Sp wz5 b (fun _ => ((fun k => most (n + k)) 1)) [w.heap.size + 1 + 1 + 1] CL nph wu := hp.S
          have c8 := hS.at_ 8 ⟨b5_8, 3, none⟩ (.int .i32 (x3).v) (by rw [hCL]; rfl)
          have hk := hK.pure (.int .i32 (x3).v) hp.S
          clear hp hK hS
          go_simp
          exact hk
        · intro a wu γ nph K hp hK
          obtain ⟨e123a, e123b⟩ := hp.dep_ 123 69 (.int .i32 (x3).v)
          obtain ⟨e125a, e125b⟩ := hp.dep_ 125 71 (.int .i32 (x3).v)
          have hk := hK.new 21 [.int .i32 (x3).v, .int .i32 (x3).v] (fun g => .slice (some ⟨g, 0, none⟩) 2 2)
          clear hp hK
          go_simp
          exact hk
        · intro a wu γ nph K hp hK
          obtain ⟨e119a, e119b⟩ := hp.dep_ 119 65 (.agg #[.iface 74 (.pointer (some ⟨b, 0, none⟩))])
          obtain ⟨e121a, e121b⟩ := hp.dep_ 121 67 (.int .i32 (y1).v)
          obtain ⟨e126a, e126b⟩ := hp.dep_ 126 72 (.slice (some ⟨γ 72, 0, none⟩) 2 2)
          have hS : Sp wz5 b (fun _ => ((fun k => most (n + k)) 1)) [w.heap.size + 1 + 1 + 1] CL nph wu := hp.S
          have nb72 : Blk wu (γ 72) 21 [.int .i32 (x3).v, .int .i32 (x3).v] := (hp.blk_ 72 (T := 21) (c := [.int .i32 (x3).v, .int .i32 (x3).v])).1
          have hk := hK.call (.int .i32 (lessW (y1) [x3, x3]).v)
          clear hp hK
          go_simp
          refine (wless_calls _ _ [x3, x3] _ _ (Sl.blk' (show Blk wu (γ 72) 21 (wds [x3, x3]) from nb72) rfl (Nat.le_refl _)) (by simp)).mono ?_
          rintro e w7 ⟨rfl, hcX⟩
          exact hk _ (hS.call hcX) (Reg.keep_callp _ rfl hS hcX)
        · intro a wu γ nph K hp hK
          obtain ⟨e3a, e3b⟩ := hp.old_ 3 (.pointer (some ⟨w.heap.size, 0, none⟩))
          have hS : Sp wz5 b (fun _ => ((fun k => most (n + k)) 1)) [w.heap.size + 1 + 1 + 1] CL nph wu := hp.S
          have c0 := hS.at_ 0 ⟨w.heap.size, 0, none⟩ (.iface 74 (.pointer (some ⟨b, 0, none⟩))) (by rw [hCL]; rfl)
          have hk := hK.pure (.agg #[.iface 74 (.pointer (some ⟨b, 0, none⟩))]) hp.S
          clear hp hK hS
          go_simp
          exact hk
        · intro a wu γ nph K hp hK
          obtain ⟨e13a, e13b⟩ := hp.old_ 13 (.pointer (some ⟨b5_9, 0, none⟩))
          have hk := hK.pure (.pointer (some ⟨b5_9, 2, none⟩)) hp.S
          clear hp hK
          go_simp
          exact hk
        · intro a wu γ nph K hp hK
          obtain ⟨e129a, e129b⟩ := hp.dep_ 129 75 (.pointer (some ⟨b5_9, 2, none⟩))
          have hS : Sp wz5 b (fun _ => ((fun k => most (n + k)) 1)) [w.heap.size + 1 + 1 + 1] CL nph wu := hp.S
          have c11 := hS.at_ 11 ⟨b5_9, 2, none⟩ (.int .i32 (y2).v) (by rw [hCL]; rfl)
          have hk := hK.pure (.int .i32 (y2).v) hp.S
          clear hp hK hS
          go_simp
          exact hk
        · intro a wu γ nph K hp hK
          obtain ⟨e12a, e12b⟩ := hp.old_ 12 (.pointer (some ⟨b5_8, 0, none⟩))
          have hk := hK.pure (.pointer (some ⟨b5_8, 0, none⟩)) hp.S
          clear hp hK
          go_simp
          exact hk
        · intro a wu γ nph K hp hK
          obtain ⟨e131a, e131b⟩ := hp.dep_ 131 77 (.pointer (some ⟨b5_8, 0, none⟩))
          have hS : Sp wz5 b (fun _ => ((fun k => most (n + k)) 1)) [w.heap.size + 1 + 1 + 1] CL nph wu := hp.S
          have c5 := hS.at_ 5 ⟨b5_8, 0, none⟩ (.int .i32 (x0).v) (by rw [hCL]; rfl)
          have hk := hK.pure (.int .i32 (x0).v) hp.S
          clear hp hK hS
          go_simp
          exact hk
        · intro a wu γ nph K hp hK
          obtain ⟨e132a, e132b⟩ := hp.dep_ 132 78 (.int .i32 (x0).v)
          have hk := hK.new 21 [.int .i32 (x0).v] (fun g => .slice (some ⟨g, 0, none⟩) 1 1)
          clear hp hK
          go_simp
          exact hk
        · intro a wu γ nph K hp hK
          obtain ⟨e128a, e128b⟩ := hp.dep_ 128 74 (.agg #[.iface 74 (.pointer (some ⟨b, 0, none⟩))])
          obtain ⟨e130a, e130b⟩ := hp.dep_ 130 76 (.int .i32 (y2).v)
          obtain ⟨e133a, e133b⟩ := hp.dep_ 133 79 (.slice (some ⟨γ 79, 0, none⟩) 1 1)
          have hS : Sp wz5 b (fun _ => ((fun k => most (n + k)) 1)) [w.heap.size + 1 + 1 + 1] CL nph wu := hp.S
          have nb79 : Blk wu (γ 79) 21 [.int .i32 (x0).v] := (hp.blk_ 79 (T := 21) (c := [.int .i32 (x0).v])).1
          have hk := hK.call (.int .i32 (lessW (y2) [x0]).v)
          clear hp hK
          go_simp
          refine (wless_calls _ _ [x0] _ _ (Sl.blk' (show Blk wu (γ 79) 21 (wds [x0]) from nb79) rfl (Nat.le_refl _)) (by simp)).mono ?_
          rintro e w7 ⟨rfl, hcX⟩
          exact hk _ (hS.call hcX) (Reg.keep_callp _ rfl hS hcX)
        · intro a wu γ nph K hp hK
          obtain ⟨e12a, e12b⟩ := hp.old_ 12 (.pointer (some ⟨b5_8, 0, none⟩))
          have hk := hK.pure (.pointer (some ⟨b5_8, 1, none⟩)) hp.S
          clear hp hK
          go_simp
          exact hk
        · intro a wu γ nph K hp hK
          obtain ⟨e135a, e135b⟩ := hp.dep_ 135 81 (.pointer (some ⟨b5_8, 1, none⟩))
          have hS : Sp wz5 b (fun _ => ((fun k => most (n + k)) 1)) [w.heap.size + 1 + 1 + 1] CL nph wu := hp.S
          have c6 := hS.at_ 6 ⟨b5_8, 1, none⟩ (.int .i32 (x1).v) (by rw [hCL]; rfl)
          have hk := hK.pure (.int .i32 (x1).v) hp.S
          clear hp hK hS
          go_simp
          exact hk
        · intro a wu γ nph K hp hK
          obtain ⟨e118a, e118b⟩ := hp.dep_ 118 64 (.func (.func 111) #[] #[.pointer (some ⟨w.heap.size, 0, none⟩), .pointer (some ⟨w.heap.size + 1 + 1 + 1 + 1, 0, none⟩), .pointer (some ⟨bo4, 0, none⟩)])
          obtain ⟨e127a, e127b⟩ := hp.dep_ 127 73 (.int .i32 (lessW (y1) [x3, x3]).v)
          obtain ⟨e134a, e134b⟩ := hp.dep_ 134 80 (.int .i32 (lessW (y2) [x0]).v)
          obtain ⟨e136a, e136b⟩ := hp.dep_ 136 82 (.int .i32 (x1).v)
          have hS : Sp wz5 b (fun _ => ((fun k => most (n + k)) 1)) [w.heap.size + 1 + 1 + 1] CL nph wu := hp.S
          have c0 := hS.at_ 0 ⟨w.heap.size, 0, none⟩ (.iface 74 (.pointer (some ⟨b, 0, none⟩))) (by rw [hCL]; rfl)
          have c1 := hS.at_ 1 ⟨w.heap.size + 1 + 1 + 1 + 1, 0, none⟩ (.func (.func 92) #[.agg #[.iface 74 (.pointer (some ⟨b, 0, none⟩))]] #[]) (by rw [hCL]; rfl)
          have c2 := hS.at_ 2 ⟨bo4, 0, none⟩ (.int .i32 (e0).v) (by rw [hCL]; rfl)
          have c3 := hS.at_ 3 ⟨bo4, 1, none⟩ (.int .i32 (e1).v) (by rw [hCL]; rfl)
          have c4 := hS.at_ 4 ⟨bo4, 2, none⟩ (.int .i32 (e2).v) (by rw [hCL]; rfl)
          have hk := hK.call (.int .i32 (sumW (lessW (y1) [x3, x3]) (lessW (y2) [x0]) (x1) (e0) (e1) (e2)).v)
          clear hp hK
          go_simp
          refine (wfield1_calls _ _ _ _ (lessW (y1) [x3, x3]) (lessW (y2) [x0]) (x1) _ _ _ _ c0 c1 c2 c3 c4).mono ?_
          rintro e w7 ⟨rfl, hcX⟩
          exact hk _ (hS.call hcX) (Reg.keep_callp _ rfl hS hcX)
        · intro a wu γ nph K hp hK
          obtain ⟨e68a, e68b⟩ := hp.dep_ 68 14 (.int .i32 (sumW (negW (y2)) (lessW (y1) [x3]) (x2) (e0) (e1) (e2)).v)
          obtain ⟨e88a, e88b⟩ := hp.dep_ 88 34 (.int .i32 (sumW (y3) (moreW (x2) [y0]) (lessW (x3) [y1, y1]) (e0) (e1) (e2)).v)
          obtain ⟨e117a, e117b⟩ := hp.dep_ 117 63 (.int .i32 (sumW (negW (moreW (x2) [x2, y0])) (moreW (x1) [y3]) (lessW (x0) [y2, y2]) (e0) (e1) (e2)).v)
          obtain ⟨e137a, e137b⟩ := hp.dep_ 137 83 (.int .i32 (sumW (lessW (y1) [x3, x3]) (lessW (y2) [x0]) (x1) (e0) (e1) (e2)).v)
          have hk := hK.pure (.agg #[.int .i32 (sumW (negW (y2)) (lessW (y1) [x3]) (x2) (e0) (e1) (e2)).v, .int .i32 (sumW (y3) (moreW (x2) [y0]) (lessW (x3) [y1, y1]) (e0) (e1) (e2)).v, .int .i32 (sumW (negW (moreW (x2) [x2, y0])) (moreW (x1) [y3]) (lessW (x0) [y2, y2]) (e0) (e1) (e2)).v, .int .i32 (sumW (lessW (y1) [x3, x3]) (lessW (y2) [x0]) (x1) (e0) (e1) (e2)).v]) hp.S
          clear hp hK
          go_simp
          exact hk
        · intro a wu γ nph K hp hK
          obtain ⟨e6a, e6b⟩ := hp.old_ 6 (.pointer (some ⟨w.heap.size + 1 + 1 + 1, 0, none⟩))
          obtain ⟨e138a, e138b⟩ := hp.dep_ 138 84 (.agg #[.int .i32 (sumW (negW (y2)) (lessW (y1) [x3]) (x2) (e0) (e1) (e2)).v, .int .i32 (sumW (y3) (moreW (x2) [y0]) (lessW (x3) [y1, y1]) (e0) (e1) (e2)).v, .int .i32 (sumW (negW (moreW (x2) [x2, y0])) (moreW (x1) [y3]) (lessW (x0) [y2, y2]) (e0) (e1) (e2)).v, .int .i32 (sumW (lessW (y1) [x3, x3]) (lessW (y2) [x0]) (x1) (e0) (e1) (e2)).v])
          have hb := (hp.blk_ 86 (T := 27) (c := [.int .i32 0, .int .i32 0, .int .i32 0, .int .i32 0])).1
          have hk := hK.put 86 27 [.int .i32 0, .int .i32 0, .int .i32 0, .int .i32 0] [.int .i32 (sumW (negW (y2)) (lessW (y1) [x3]) (x2) (e0) (e1) (e2)).v, .int .i32 (sumW (y3) (moreW (x2) [y0]) (lessW (x3) [y1, y1]) (e0) (e1) (e2)).v, .int .i32 (sumW (negW (moreW (x2) [x2, y0])) (moreW (x1) [y3]) (lessW (x0) [y2, y2]) (e0) (e1) (e2)).v, .int .i32 (sumW (lessW (y1) [x3, x3]) (lessW (y2) [x0]) (x1) (e0) (e1) (e2)).v]
          have hO : γ 86 = w.heap.size + 1 + 1 + 1 := hp.old 86 (Nat.le_trans (Nat.le_of_eq (by kernel_rfl : _ = 86)) (by decide : 86 ≤ 86))
          rw [hO] at hb hk
          have z0 := hb.cell' (i := 0) rfl
          have f0 := hb.frozen 0
          have z1 := hb.cell' (i := 1) rfl
          have f1 := hb.frozen 1
          have z2 := hb.cell' (i := 2) rfl
          have f2 := hb.frozen 2
          have z3 := hb.cell' (i := 3) rfl
          have f3 := hb.frozen 3
          clear hp hK
          clear hO
          go_simp
          exact hk _ ((((hb.set_ 0 _).set_ 1 _).set_ 2 _).set_ 3 _) (((((Chg.refl wu _).setCell _ _ (.inl (by simp))).setCell _ _ (.inl (by simp))).setCell _ _ (.inl (by simp))).setCell _ _ (.inl (by simp))) (by simp)
      · intro a wu γ nph K hp hK
        obtain ⟨e3a, e3b⟩ := hp.old_ 3 (.pointer (some ⟨w.heap.size, 0, none⟩))
        have hS : Sp wz4 b (fun _ => ((fun k => most (n + k)) 1)) [w.heap.size + 1 + 1 + 1] CL nph wu := hp.S
        have c0 := hS.at_ 0 ⟨w.heap.size, 0, none⟩ (.iface 74 (.pointer (some ⟨b, 0, none⟩))) (by rw [hCL]; rfl)
        have hk := hK.pure (.agg #[.iface 74 (.pointer (some ⟨b, 0, none⟩))]) hp.S
        clear hp hK hS
        go_simp
        exact hk
      · intro a wu γ nph K hp hK
        obtain ⟨e9a, e9b⟩ := hp.old_ 9 (.int .i32 (fieldB q0 q1 q2 q3 f0 f1 f2).v)
        have hk := hK.pure (.int .i32 (fieldB q0 q1 q2 q3 f0 f1 f2).v) hp.S
        clear hp hK
        go_simp
        exact hk
      · intro a wu γ nph K hp hK
        obtain ⟨e4a, e4b⟩ := hp.old_ 4 (.pointer (some ⟨w.heap.size + 1, 0, none⟩))
        have hS : Sp wz4 b (fun _ => ((fun k => most (n + k)) 1)) [w.heap.size + 1 + 1 + 1] CL nph wu := hp.S
        have c1 := hS.at_ 1 ⟨w.heap.size + 1, 0, none⟩ (.int .i32 (q0).v) (by rw [hCL]; rfl)
        have c2 := hS.at_ 2 ⟨w.heap.size + 1, 1, none⟩ (.int .i32 (q1).v) (by rw [hCL]; rfl)
        have c3 := hS.at_ 3 ⟨w.heap.size + 1, 2, none⟩ (.int .i32 (q2).v) (by rw [hCL]; rfl)
        have c4 := hS.at_ 4 ⟨w.heap.size + 1, 3, none⟩ (.int .i32 (q3).v) (by rw [hCL]; rfl)
        have hk := hK.pure (.agg #[.int .i32 (q0).v, .int .i32 (q1).v, .int .i32 (q2).v, .int .i32 (q3).v]) hp.S
        clear hp hK hS
        go_simp
        exact hk
      · intro a wu γ nph K hp hK
        obtain ⟨e44a, e44b⟩ := hp.dep_ 44 0 (.agg #[.iface 74 (.pointer (some ⟨b, 0, none⟩))])
        obtain ⟨e45a, e45b⟩ := hp.dep_ 45 1 (.int .i32 (fieldB q0 q1 q2 q3 f0 f1 f2).v)
        obtain ⟨e46a, e46b⟩ := hp.dep_ 46 2 (.agg #[.int .i32 (q0).v, .int .i32 (q1).v, .int .i32 (q2).v, .int .i32 (q3).v])
        have hS : Sp wz4 b (fun _ => ((fun k => most (n + k)) 1)) [w.heap.size + 1 + 1 + 1] CL nph wu := hp.S
        have hk := hK.call (.agg #[.int .i32 (mulqW (fieldB q0 q1 q2 q3 f0 f1 f2) (q0)).v, .int .i32 (mulqW (fieldB q0 q1 q2 q3 f0 f1 f2) (q1)).v, .int .i32 (mulqW (fieldB q0 q1 q2 q3 f0 f1 f2) (q2)).v, .int .i32 (mulqW (fieldB q0 q1 q2 q3 f0 f1 f2) (q3)).v])
        clear hp hK
        go_simp
        refine (wtimes_calls _ (fieldB q0 q1 q2 q3 f0 f1 f2) (q0) (q1) (q2) (q3) _).mono ?_
        rintro e w7 ⟨rfl, hcX⟩
        exact hk _ (hS.call hcX) (Reg.keep_callp _ rfl hS hcX)
      · intro a wu γ nph K hp hK
        obtain ⟨e3a, e3b⟩ := hp.old_ 3 (.pointer (some ⟨w.heap.size, 0, none⟩))
        have hS : Sp wz4 b (fun _ => ((fun k => most (n + k)) 1)) [w.heap.size + 1 + 1 + 1] CL nph wu := hp.S
        have c0 := hS.at_ 0 ⟨w.heap.size, 0, none⟩ (.iface 74 (.pointer (some ⟨b, 0, none⟩))) (by rw [hCL]; rfl)
        have hk := hK.pure (.agg #[.iface 74 (.pointer (some ⟨b, 0, none⟩))]) hp.S
        clear hp hK hS
        go_simp
        exact hk
      · intro a wu γ nph K hp hK
        obtain ⟨e10a, e10b⟩ := hp.old_ 10 (.int .i32 (fieldZ q0 q1 q2 q3 f0 f1 f2).v)
        have hk := hK.pure (.int .i32 (fieldZ q0 q1 q2 q3 f0 f1 f2).v) hp.S
        clear hp hK
        go_simp
        exact hk
      · intro a wu γ nph K hp hK
        obtain ⟨e4a, e4b⟩ := hp.old_ 4 (.pointer (some ⟨w.heap.size + 1, 0, none⟩))
        have hS : Sp wz4 b (fun _ => ((fun k => most (n + k)) 1)) [w.heap.size + 1 + 1 + 1] CL nph wu := hp.S
        have c1 := hS.at_ 1 ⟨w.heap.size + 1, 0, none⟩ (.int .i32 (q0).v) (by rw [hCL]; rfl)
        have c2 := hS.at_ 2 ⟨w.heap.size + 1, 1, none⟩ (.int .i32 (q1).v) (by rw [hCL]; rfl)
        have c3 := hS.at_ 3 ⟨w.heap.size + 1, 2, none⟩ (.int .i32 (q2).v) (by rw [hCL]; rfl)
        have c4 := hS.at_ 4 ⟨w.heap.size + 1, 3, none⟩ (.int .i32 (q3).v) (by rw [hCL]; rfl)
        have hk := hK.pure (.agg #[.int .i32 (q0).v, .int .i32 (q1).v, .int .i32 (q2).v, .int .i32 (q3).v]) hp.S
        clear hp hK hS
        go_simp
        exact hk
      · intro a wu γ nph K hp hK
        obtain ⟨e48a, e48b⟩ := hp.dep_ 48 4 (.agg #[.iface 74 (.pointer (some ⟨b, 0, none⟩))])
        obtain ⟨e49a, e49b⟩ := hp.dep_ 49 5 (.int .i32 (fieldZ q0 q1 q2 q3 f0 f1 f2).v)
        obtain ⟨e50a, e50b⟩ := hp.dep_ 50 6 (.agg #[.int .i32 (q0).v, .int .i32 (q1).v, .int .i32 (q2).v, .int .i32 (q3).v])
        have hS : Sp wz4 b (fun _ => ((fun k => most (n + k)) 1)) [w.heap.size + 1 + 1 + 1] CL nph wu := hp.S
        have hk := hK.call (.agg #[.int .i32 (mulqW (fieldZ q0 q1 q2 q3 f0 f1 f2) (q0)).v, .int .i32 (mulqW (fieldZ q0 q1 q2 q3 f0 f1 f2) (q1)).v, .int .i32 (mulqW (fieldZ q0 q1 q2 q3 f0 f1 f2) (q2)).v, .int .i32 (mulqW (fieldZ q0 q1 q2 q3 f0 f1 f2) (q3)).v])
        clear hp hK
        go_simp
        refine (wtimes_calls _ (fieldZ q0 q1 q2 q3 f0 f1 f2) (q0) (q1) (q2) (q3) _).mono ?_
        rintro e w7 ⟨rfl, hcX⟩
        exact hk _ (hS.call hcX) (Reg.keep_callp _ rfl hS hcX)
      · intro a wu γ nph K hp hK
        have hk := hK.new 27 [.int .i32 0, .int .i32 0, .int .i32 0, .int .i32 0] (fun g => .pointer (some ⟨g, 0, none⟩))
        clear hp hK
        go_simp
        exact hk
      · intro a wu γ nph K hp hK
        have hk := hK.new 27 [.int .i32 0, .int .i32 0, .int .i32 0, .int .i32 0] (fun g => .pointer (some ⟨g, 0, none⟩))
        clear hp hK
        go_simp
        exact hk
      · intro a wu γ nph K hp hK
        obtain ⟨e12a, e12b⟩ := hp.dep_ 12 8 (.pointer (some ⟨γ 8, 0, none⟩))
        obtain ⟨e47a, e47b⟩ := hp.dep_ 47 3 (.agg #[.int .i32 (mulqW (fieldB q0 q1 q2 q3 f0 f1 f2) (q0)).v, .int .i32 (mulqW (fieldB q0 q1 q2 q3 f0 f1 f2) (q1)).v, .int .i32 (mulqW (fieldB q0 q1 q2 q3 f0 f1 f2) (q2)).v, .int .i32 (mulqW (fieldB q0 q1 q2 q3 f0 f1 f2) (q3)).v])
        have hb := (hp.blk_ 8 (T := 27) (c := [.int .i32 0, .int .i32 0, .int .i32 0, .int .i32 0])).1
        have hk := hK.put 8 27 [.int .i32 0, .int .i32 0, .int .i32 0, .int .i32 0] [.int .i32 (mulqW (fieldB q0 q1 q2 q3 f0 f1 f2) (q0)).v, .int .i32 (mulqW (fieldB q0 q1 q2 q3 f0 f1 f2) (q1)).v, .int .i32 (mulqW (fieldB q0 q1 q2 q3 f0 f1 f2) (q2)).v, .int .i32 (mulqW (fieldB q0 q1 q2 q3 f0 f1 f2) (q3)).v]
        have z0 := hb.cell' (i := 0) rfl
        have f0 := hb.frozen 0
        have z1 := hb.cell' (i := 1) rfl
        have f1 := hb.frozen 1
        have z2 := hb.cell' (i := 2) rfl
        have f2 := hb.frozen 2
        have z3 := hb.cell' (i := 3) rfl
        have f3 := hb.frozen 3
        clear hp hK
        go_simp
        exact hk _ ((((hb.set_ 0 _).set_ 1 _).set_ 2 _).set_ 3 _) (((((Chg.refl wu _).setCell _ _ (.inl (by simp))).setCell _ _ (.inl (by simp))).setCell _ _ (.inl (by simp))).setCell _ _ (.inl (by simp))) (by simp)
      · intro a wu γ nph K hp hK
        obtain ⟨e13a, e13b⟩ := hp.dep_ 13 9 (.pointer (some ⟨γ 9, 0, none⟩))
        obtain ⟨e51a, e51b⟩ := hp.dep_ 51 7 (.agg #[.int .i32 (mulqW (fieldZ q0 q1 q2 q3 f0 f1 f2) (q0)).v, .int .i32 (mulqW (fieldZ q0 q1 q2 q3 f0 f1 f2) (q1)).v, .int .i32 (mulqW (fieldZ q0 q1 q2 q3 f0 f1 f2) (q2)).v, .int .i32 (mulqW (fieldZ q0 q1 q2 q3 f0 f1 f2) (q3)).v])
        have hb := (hp.blk_ 9 (T := 27) (c := [.int .i32 0, .int .i32 0, .int .i32 0, .int .i32 0])).1
        have hk := hK.put 9 27 [.int .i32 0, .int .i32 0, .int .i32 0, .int .i32 0] [.int .i32 (mulqW (fieldZ q0 q1 q2 q3 f0 f1 f2) (q0)).v, .int .i32 (mulqW (fieldZ q0 q1 q2 q3 f0 f1 f2) (q1)).v, .int .i32 (mulqW (fieldZ q0 q1 q2 q3 f0 f1 f2) (q2)).v, .int .i32 (mulqW (fieldZ q0 q1 q2 q3 f0 f1 f2) (q3)).v]
        have z0 := hb.cell' (i := 0) rfl
        have f0 := hb.frozen 0
        have z1 := hb.cell' (i := 1) rfl
        have f1 := hb.frozen 1
        have z2 := hb.cell' (i := 2) rfl
        have f2 := hb.frozen 2
        have z3 := hb.cell' (i := 3) rfl
        have f3 := hb.frozen 3
        clear hp hK
        go_simp
        exact hk _ ((((hb.set_ 0 _).set_ 1 _).set_ 2 _).set_ 3 _) (((((Chg.refl wu _).setCell _ _ (.inl (by simp))).setCell _ _ (.inl (by simp))).setCell _ _ (.inl (by simp))).setCell _ _ (.inl (by simp))) (by simp)
    · intro a wu γ nph K hp hK
      obtain ⟨e3a, e3b⟩ := hp.old_ 3 (.pointer (some ⟨w.heap.size, 0, none⟩))
      have hS : Sp wz1 b (fun k => most (n + k)) [w.heap.size + 1 + 1 + 1] CL nph wu := hp.S
      have c0 := hS.at_ 0 ⟨w.heap.size, 0, none⟩ (.iface 74 (.pointer (some ⟨b, 0, none⟩))) (by rw [hCL]; rfl)
      have hk := hK.pure (.agg #[.iface 74 (.pointer (some ⟨b, 0, none⟩))]) hp.S
      clear hp hK hS
      go_simp
      exact hk
    · intro a wu γ nph K hp hK
      obtain ⟨e3a, e3b⟩ := hp.old_ 3 (.pointer (some ⟨w.heap.size, 0, none⟩))
      have hS : Sp wz1 b (fun k => most (n + k)) [w.heap.size + 1 + 1 + 1] CL nph wu := hp.S
      have c0 := hS.at_ 0 ⟨w.heap.size, 0, none⟩ (.iface 74 (.pointer (some ⟨b, 0, none⟩))) (by rw [hCL]; rfl)
      have hk := hK.pure (.agg #[.iface 74 (.pointer (some ⟨b, 0, none⟩))]) hp.S
      clear hp hK hS
      go_simp
      exact hk
    · intro a wu γ nph K hp hK
      obtain ⟨e8a, e8b⟩ := hp.old_ 8 (.pointer (some ⟨b1_9, 0, none⟩))
      have hk := hK.pure (.pointer (some ⟨b1_9, 1, none⟩)) hp.S
      clear hp hK
      go_simp
      exact hk
    · intro a wu γ nph K hp hK
      obtain ⟨e29a, e29b⟩ := hp.dep_ 29 2 (.pointer (some ⟨b1_9, 1, none⟩))
      have hS : Sp wz1 b (fun k => most (n + k)) [w.heap.size + 1 + 1 + 1] CL nph wu := hp.S
      have c10 := hS.at_ 10 ⟨b1_9, 1, none⟩ (.int .i32 ((fieldH q0 q1 q2 q3 f0 f1 f2).b).v) (by rw [hCL]; rfl)
      have hk := hK.pure (.int .i32 ((fieldH q0 q1 q2 q3 f0 f1 f2).b).v) hp.S
      clear hp hK hS
      go_simp
      exact hk
    · intro a wu γ nph K hp hK
      obtain ⟨e8a, e8b⟩ := hp.old_ 8 (.pointer (some ⟨b1_9, 0, none⟩))
      have hk := hK.pure (.pointer (some ⟨b1_9, 2, none⟩)) hp.S
      clear hp hK
      go_simp
      exact hk
    · intro a wu γ nph K hp hK
      obtain ⟨e31a, e31b⟩ := hp.dep_ 31 4 (.pointer (some ⟨b1_9, 2, none⟩))
      have hS : Sp wz1 b (fun k => most (n + k)) [w.heap.size + 1 + 1 + 1] CL nph wu := hp.S
      have c11 := hS.at_ 11 ⟨b1_9, 2, none⟩ (.int .i32 ((fieldH q0 q1 q2 q3 f0 f1 f2).c).v) (by rw [hCL]; rfl)
      have hk := hK.pure (.int .i32 ((fieldH q0 q1 q2 q3 f0 f1 f2).c).v) hp.S
      clear hp hK hS
      go_simp
      exact hk
    · intro a wu γ nph K hp hK
      obtain ⟨e30a, e30b⟩ := hp.dep_ 30 3 (.int .i32 ((fieldH q0 q1 q2 q3 f0 f1 f2).b).v)
      obtain ⟨e32a, e32b⟩ := hp.dep_ 32 5 (.int .i32 ((fieldH q0 q1 q2 q3 f0 f1 f2).c).v)
      have hk := hK.new 21 [.int .i32 ((fieldH q0 q1 q2 q3 f0 f1 f2).b).v, .int .i32 ((fieldH q0 q1 q2 q3 f0 f1 f2).c).v] (fun g => .slice (some ⟨g, 0, none⟩) 2 2)
      clear hp hK
      go_simp
      exact hk
    · intro a wu γ nph K hp hK
      obtain ⟨e28a, e28b⟩ := hp.dep_ 28 1 (.agg #[.iface 74 (.pointer (some ⟨b, 0, none⟩))])
      obtain ⟨e33a, e33b⟩ := hp.dep_ 33 6 (.slice (some ⟨γ 6, 0, none⟩) 2 2)
      have hS : Sp wz1 b (fun k => most (n + k)) [w.heap.size + 1 + 1 + 1] CL nph wu := hp.S
      have nb6 : Blk wu (γ 6) 21 [.int .i32 ((fieldH q0 q1 q2 q3 f0 f1 f2).b).v, .int .i32 ((fieldH q0 q1 q2 q3 f0 f1 f2).c).v] := (hp.blk_ 6 (T := 21) (c := [.int .i32 ((fieldH q0 q1 q2 q3 f0 f1 f2).b).v, .int .i32 ((fieldH q0 q1 q2 q3 f0 f1 f2).c).v])).1
      have hk := hK.call (.int .i32 (normW ((fieldH q0 q1 q2 q3 f0 f1 f2).b) [(fieldH q0 q1 q2 q3 f0 f1 f2).c]).v)
      clear hp hK
      go_simp
      refine (wnorm_calls _ ((fieldH q0 q1 q2 q3 f0 f1 f2).b) [(fieldH q0 q1 q2 q3 f0 f1 f2).c] _ _ (Sl.blk' (show Blk wu (γ 6) 21 (wds [(fieldH q0 q1 q2 q3 f0 f1 f2).b, (fieldH q0 q1 q2 q3 f0 f1 f2).c]) from nb6) rfl (Nat.le_refl _)) (by simp) (by simp)).mono ?_
      rintro e w7 ⟨rfl, hcX⟩
      exact hk _ (hS.call hcX) (Reg.keep_callp _ rfl hS hcX)
    · intro a wu γ nph K hp hK
      obtain ⟨e27a, e27b⟩ := hp.dep_ 27 0 (.agg #[.iface 74 (.pointer (some ⟨b, 0, none⟩))])
      obtain ⟨e34a, e34b⟩ := hp.dep_ 34 7 (.int .i32 (normW ((fieldH q0 q1 q2 q3 f0 f1 f2).b) [(fieldH q0 q1 q2 q3 f0 f1 f2).c]).v)
      have hS : Sp wz1 b (fun k => most (n + k)) [w.heap.size + 1 + 1 + 1] CL nph wu := hp.S
      have hn : nph = 0 := hp.eff 0 (by kernel_rfl)
      have hk := hK.eff (.int .i32 (sqrtW (normW ((fieldH q0 q1 q2 q3 f0 f1 f2).b) [(fieldH q0 q1 q2 q3 f0 f1 f2).c])).v)
      clear hp hK
      subst hn
      go_simp
      refine (wsqrt_calls b (normW ((fieldH q0 q1 q2 q3 f0 f1 f2).b) [(fieldH q0 q1 q2 q3 f0 f1 f2).c]) _ _ (by first | assumption | (simp; omega) | omega) hS.pl).mono ?_
      rintro e w7 ⟨rfl, hpR, htR⟩
      exact hk _ (hS.eff hap hpR htR) (Reg.keep_eff _ rfl htR)
    · intro a wu γ nph K hp hK
      obtain ⟨e8a, e8b⟩ := hp.old_ 8 (.pointer (some ⟨b1_9, 0, none⟩))
      have hk := hK.pure (.pointer (some ⟨b1_9, 3, none⟩)) hp.S
      clear hp hK
      go_simp
      exact hk
    · intro a wu γ nph K hp hK
      obtain ⟨e36a, e36b⟩ := hp.dep_ 36 9 (.pointer (some ⟨b1_9, 3, none⟩))
      have hS : Sp wz1 b (fun k => most (n + k)) [w.heap.size + 1 + 1 + 1] CL nph wu := hp.S
      have c12 := hS.at_ 12 ⟨b1_9, 3, none⟩ (.int .i32 ((fieldH q0 q1 q2 q3 f0 f1 f2).d).v) (by rw [hCL]; rfl)
      have hk := hK.pure (.int .i32 ((fieldH q0 q1 q2 q3 f0 f1 f2).d).v) hp.S
      clear hp hK hS
      go_simp
      exact hk
    · intro a wu γ nph K hp hK
      obtain ⟨e35a, e35b⟩ := hp.dep_ 35 8 (.int .i32 (sqrtW (normW ((fieldH q0 q1 q2 q3 f0 f1 f2).b) [(fieldH q0 q1 q2 q3 f0 f1 f2).c])).v)
      have hk := hK.pure (.int .i32 (sqrtW (normW ((fieldH q0 q1 q2 q3 f0 f1 f2).b) [(fieldH q0 q1 q2 q3 f0 f1 f2).c])).v) hp.S
      clear hp hK
      go_simp
      exact hk
    · intro a wu γ nph K hp hK
      obtain ⟨e37a, e37b⟩ := hp.dep_ 37 10 (.int .i32 ((fieldH q0 q1 q2 q3 f0 f1 f2).d).v)
      have hk := hK.pure (.int .i32 ((fieldH q0 q1 q2 q3 f0 f1 f2).d).v) hp.S
      clear hp hK
      go_simp
      exact hk
  · intro a wu γ nph K hp hK
    obtain ⟨e3a, e3b⟩ := hp.old_ 3 (.pointer (some ⟨w.heap.size, 0, none⟩))
    have hS : Sp w6 b (fun _ => (most n)) [w.heap.size + 1 + 1 + 1] CL nph wu := hp.S
    have c0 := hS.at_ 0 ⟨w.heap.size, 0, none⟩ (.iface 74 (.pointer (some ⟨b, 0, none⟩))) (by rw [hCL]; rfl)
    have hk := hK.pure (.agg #[.iface 74 (.pointer (some ⟨b, 0, none⟩))]) hp.S
    clear hp hK hS
    go_simp
    exact hk
  · intro a wu γ nph K hp hK
    obtain ⟨e3a, e3b⟩ := hp.old_ 3 (.pointer (some ⟨w.heap.size, 0, none⟩))
    have hS : Sp w6 b (fun _ => (most n)) [w.heap.size + 1 + 1 + 1] CL nph wu := hp.S
    have c0 := hS.at_ 0 ⟨w.heap.size, 0, none⟩ (.iface 74 (.pointer (some ⟨b, 0, none⟩))) (by rw [hCL]; rfl)
    have hk := hK.pure (.agg #[.iface 74 (.pointer (some ⟨b, 0, none⟩))]) hp.S
    clear hp hK hS
    go_simp
    exact hk
  · intro a wu γ nph K hp hK
    obtain ⟨e4a, e4b⟩ := hp.old_ 4 (.pointer (some ⟨w.heap.size + 1, 0, none⟩))
    have hS : Sp w6 b (fun _ => (most n)) [w.heap.size + 1 + 1 + 1] CL nph wu := hp.S
    have c1 := hS.at_ 1 ⟨w.heap.size + 1, 0, none⟩ (.int .i32 (q0).v) (by rw [hCL]; rfl)
    have c2 := hS.at_ 2 ⟨w.heap.size + 1, 1, none⟩ (.int .i32 (q1).v) (by rw [hCL]; rfl)
    have c3 := hS.at_ 3 ⟨w.heap.size + 1, 2, none⟩ (.int .i32 (q2).v) (by rw [hCL]; rfl)
    have c4 := hS.at_ 4 ⟨w.heap.size + 1, 3, none⟩ (.int .i32 (q3).v) (by rw [hCL]; rfl)
    have hk := hK.pure (.agg #[.int .i32 (q0).v, .int .i32 (q1).v, .int .i32 (q2).v, .int .i32 (q3).v]) hp.S
    clear hp hK hS
    go_simp
    exact hk
  · intro a wu γ nph K hp hK
    obtain ⟨e5a, e5b⟩ := hp.old_ 5 (.pointer (some ⟨w.heap.size + 1 + 1, 0, none⟩))
    have hS : Sp w6 b (fun _ => (most n)) [w.heap.size + 1 + 1 + 1] CL nph wu := hp.S
    have c5 := hS.at_ 5 ⟨w.heap.size + 1 + 1, 0, none⟩ (.int .i32 (f0).v) (by rw [hCL]; rfl)
    have c6 := hS.at_ 6 ⟨w.heap.size + 1 + 1, 1, none⟩ (.int .i32 (f1).v) (by rw [hCL]; rfl)
    have c7 := hS.at_ 7 ⟨w.heap.size + 1 + 1, 2, none⟩ (.int .i32 (f2).v) (by rw [hCL]; rfl)
    have hk := hK.pure (.agg #[.int .i32 (f0).v, .int .i32 (f1).v, .int .i32 (f2).v]) hp.S
    clear hp hK hS
    go_simp
    exact hk
  · intro a wu γ nph K hp hK
    obtain ⟨e19a, e19b⟩ := hp.dep_ 19 1 (.agg #[.iface 74 (.pointer (some ⟨b, 0, none⟩))])
    obtain ⟨e20a, e20b⟩ := hp.dep_ 20 2 (.agg #[.int .i32 (q0).v, .int .i32 (q1).v, .int .i32 (q2).v, .int .i32 (q3).v])
    obtain ⟨e21a, e21b⟩ := hp.dep_ 21 3 (.agg #[.int .i32 (f0).v, .int .i32 (f1).v, .int .i32 (f2).v])
    have hS : Sp w6 b (fun _ => (most n)) [w.heap.size + 1 + 1 + 1] CL nph wu := hp.S
    have hk := hK.call (.agg #[.int .i32 ((rateW (q0) (q1) (q2) (q3) (f0) (f1) (f2)).a).v, .int .i32 ((rateW (q0) (q1) (q2) (q3) (f0) (f1) (f2)).b).v, .int .i32 ((rateW (q0) (q1) (q2) (q3) (f0) (f1) (f2)).c).v, .int .i32 ((rateW (q0) (q1) (q2) (q3) (f0) (f1) (f2)).d).v])
    clear hp hK
    go_simp
    refine (wrate_calls _ (q0) (q1) (q2) (q3) (f0) (f1) (f2) _).mono ?_
    rintro e w7 ⟨rfl, hcX⟩
    exact hk _ (hS.call hcX) (Reg.keep_callp _ rfl hS hcX)
  · intro a wu γ nph K hp hK
    obtain ⟨e3a, e3b⟩ := hp.old_ 3 (.pointer (some ⟨w.heap.size, 0, none⟩))
    have hS : Sp w6 b (fun _ => (most n)) [w.heap.size + 1 + 1 + 1] CL nph wu := hp.S
    have c0 := hS.at_ 0 ⟨w.heap.size, 0, none⟩ (.iface 74 (.pointer (some ⟨b, 0, none⟩))) (by rw [hCL]; rfl)
    have hk := hK.pure (.agg #[.iface 74 (.pointer (some ⟨b, 0, none⟩))]) hp.S
    clear hp hK hS
    go_simp
    exact hk
  · intro a wu γ nph K hp hK
    obtain ⟨e4a, e4b⟩ := hp.old_ 4 (.pointer (some ⟨w.heap.size + 1, 0, none⟩))
    have hS : Sp w6 b (fun _ => (most n)) [w.heap.size + 1 + 1 + 1] CL nph wu := hp.S
    have c1 := hS.at_ 1 ⟨w.heap.size + 1, 0, none⟩ (.int .i32 (q0).v) (by rw [hCL]; rfl)
    have c2 := hS.at_ 2 ⟨w.heap.size + 1, 1, none⟩ (.int .i32 (q1).v) (by rw [hCL]; rfl)
    have c3 := hS.at_ 3 ⟨w.heap.size + 1, 2, none⟩ (.int .i32 (q2).v) (by rw [hCL]; rfl)
    have c4 := hS.at_ 4 ⟨w.heap.size + 1, 3, none⟩ (.int .i32 (q3).v) (by rw [hCL]; rfl)
    have hk := hK.pure (.agg #[.int .i32 (q0).v, .int .i32 (q1).v, .int .i32 (q2).v, .int .i32 (q3).v]) hp.S
    clear hp hK hS
    go_simp
    exact hk
  · intro a wu γ nph K hp hK
    obtain ⟨e23a, e23b⟩ := hp.dep_ 23 5 (.agg #[.iface 74 (.pointer (some ⟨b, 0, none⟩))])
    obtain ⟨e24a, e24b⟩ := hp.dep_ 24 6 (.agg #[.int .i32 (q0).v, .int .i32 (q1).v, .int .i32 (q2).v, .int .i32 (q3).v])
    have hS : Sp w6 b (fun _ => (most n)) [w.heap.size + 1 + 1 + 1] CL nph wu := hp.S
    have hk := hK.call (.agg #[.int .i32 (q0).v, .int .i32 (negW (q1)).v, .int .i32 (negW (q2)).v, .int .i32 (negW (q3)).v])
    clear hp hK
    go_simp
    refine (wconj_calls _ (q0) (q1) (q2) (q3) _).mono ?_
    rintro e w7 ⟨rfl, hcX⟩
    exact hk _ (hS.call hcX) (Reg.keep_callp _ rfl hS hcX)
  · intro a wu γ nph K hp hK
    obtain ⟨e18a, e18b⟩ := hp.dep_ 18 0 (.agg #[.iface 74 (.pointer (some ⟨b, 0, none⟩))])
    obtain ⟨e22a, e22b⟩ := hp.dep_ 22 4 (.agg #[.int .i32 ((rateW (q0) (q1) (q2) (q3) (f0) (f1) (f2)).a).v, .int .i32 ((rateW (q0) (q1) (q2) (q3) (f0) (f1) (f2)).b).v, .int .i32 ((rateW (q0) (q1) (q2) (q3) (f0) (f1) (f2)).c).v, .int .i32 ((rateW (q0) (q1) (q2) (q3) (f0) (f1) (f2)).d).v])
    obtain ⟨e25a, e25b⟩ := hp.dep_ 25 7 (.agg #[.int .i32 (q0).v, .int .i32 (negW (q1)).v, .int .i32 (negW (q2)).v, .int .i32 (negW (q3)).v])
    have hS : Sp w6 b (fun _ => (most n)) [w.heap.size + 1 + 1 + 1] CL nph wu := hp.S
    have hk := hK.call (.agg #[.int .i32 ((timesW ((rateW (q0) (q1) (q2) (q3) (f0) (f1) (f2)).a) ((rateW (q0) (q1) (q2) (q3) (f0) (f1) (f2)).b) ((rateW (q0) (q1) (q2) (q3) (f0) (f1) (f2)).c) ((rateW (q0) (q1) (q2) (q3) (f0) (f1) (f2)).d) (q0) (negW (q1)) (negW (q2)) (negW (q3))).a).v, .int .i32 ((timesW ((rateW (q0) (q1) (q2) (q3) (f0) (f1) (f2)).a) ((rateW (q0) (q1) (q2) (q3) (f0) (f1) (f2)).b) ((rateW (q0) (q1) (q2) (q3) (f0) (f1) (f2)).c) ((rateW (q0) (q1) (q2) (q3) (f0) (f1) (f2)).d) (q0) (negW (q1)) (negW (q2)) (negW (q3))).b).v, .int .i32 ((timesW ((rateW (q0) (q1) (q2) (q3) (f0) (f1) (f2)).a) ((rateW (q0) (q1) (q2) (q3) (f0) (f1) (f2)).b) ((rateW (q0) (q1) (q2) (q3) (f0) (f1) (f2)).c) ((rateW (q0) (q1) (q2) (q3) (f0) (f1) (f2)).d) (q0) (negW (q1)) (negW (q2)) (negW (q3))).c).v, .int .i32 ((timesW ((rateW (q0) (q1) (q2) (q3) (f0) (f1) (f2)).a) ((rateW (q0) (q1) (q2) (q3) (f0) (f1) (f2)).b) ((rateW (q0) (q1) (q2) (q3) (f0) (f1) (f2)).c) ((rateW (q0) (q1) (q2) (q3) (f0) (f1) (f2)).d) (q0) (negW (q1)) (negW (q2)) (negW (q3))).d).v])
    clear hp hK
    go_simp
    refine (wtimesQ_calls _ ((rateW (q0) (q1) (q2) (q3) (f0) (f1) (f2)).a) ((rateW (q0) (q1) (q2) (q3) (f0) (f1) (f2)).b) ((rateW (q0) (q1) (q2) (q3) (f0) (f1) (f2)).c) ((rateW (q0) (q1) (q2) (q3) (f0) (f1) (f2)).d) (q0) (negW (q1)) (negW (q2)) (negW (q3)) _).mono ?_
    rintro e w7 ⟨rfl, hcX⟩
    exact hk _ (hS.call hcX) (Reg.keep_callp _ rfl hS hcX)
  · intro a wu γ nph K hp hK
    have hk := hK.new 27 [.int .i32 0, .int .i32 0, .int .i32 0, .int .i32 0] (fun g => .pointer (some ⟨g, 0, none⟩))
    clear hp hK
    go_simp
    exact hk
  · intro a wu γ nph K hp hK
    obtain ⟨e8a, e8b⟩ := hp.dep_ 8 9 (.pointer (some ⟨γ 9, 0, none⟩))
    obtain ⟨e26a, e26b⟩ := hp.dep_ 26 8 (.agg #[.int .i32 ((timesW ((rateW (q0) (q1) (q2) (q3) (f0) (f1) (f2)).a) ((rateW (q0) (q1) (q2) (q3) (f0) (f1) (f2)).b) ((rateW (q0) (q1) (q2) (q3) (f0) (f1) (f2)).c) ((rateW (q0) (q1) (q2) (q3) (f0) (f1) (f2)).d) (q0) (negW (q1)) (negW (q2)) (negW (q3))).a).v, .int .i32 ((timesW ((rateW (q0) (q1) (q2) (q3) (f0) (f1) (f2)).a) ((rateW (q0) (q1) (q2) (q3) (f0) (f1) (f2)).b) ((rateW (q0) (q1) (q2) (q3) (f0) (f1) (f2)).c) ((rateW (q0) (q1) (q2) (q3) (f0) (f1) (f2)).d) (q0) (negW (q1)) (negW (q2)) (negW (q3))).b).v, .int .i32 ((timesW ((rateW (q0) (q1) (q2) (q3) (f0) (f1) (f2)).a) ((rateW (q0) (q1) (q2) (q3) (f0) (f1) (f2)).b) ((rateW (q0) (q1) (q2) (q3) (f0) (f1) (f2)).c) ((rateW (q0) (q1) (q2) (q3) (f0) (f1) (f2)).d) (q0) (negW (q1)) (negW (q2)) (negW (q3))).c).v, .int .i32 ((timesW ((rateW (q0) (q1) (q2) (q3) (f0) (f1) (f2)).a) ((rateW (q0) (q1) (q2) (q3) (f0) (f1) (f2)).b) ((rateW (q0) (q1) (q2) (q3) (f0) (f1) (f2)).c) ((rateW (q0) (q1) (q2) (q3) (f0) (f1) (f2)).d) (q0) (negW (q1)) (negW (q2)) (negW (q3))).d).v])
    have hb := (hp.blk_ 9 (T := 27) (c := [.int .i32 0, .int .i32 0, .int .i32 0, .int .i32 0])).1
    have hk := hK.put 9 27 [.int .i32 0, .int .i32 0, .int .i32 0, .int .i32 0] [.int .i32 ((timesW ((rateW (q0) (q1) (q2) (q3) (f0) (f1) (f2)).a) ((rateW (q0) (q1) (q2) (q3) (f0) (f1) (f2)).b) ((rateW (q0) (q1) (q2) (q3) (f0) (f1) (f2)).c) ((rateW (q0) (q1) (q2) (q3) (f0) (f1) (f2)).d) (q0) (negW (q1)) (negW (q2)) (negW (q3))).a).v, .int .i32 ((timesW ((rateW (q0) (q1) (q2) (q3) (f0) (f1) (f2)).a) ((rateW (q0) (q1) (q2) (q3) (f0) (f1) (f2)).b) ((rateW (q0) (q1) (q2) (q3) (f0) (f1) (f2)).c) ((rateW (q0) (q1) (q2) (q3) (f0) (f1) (f2)).d) (q0) (negW (q1)) (negW (q2)) (negW (q3))).b).v, .int .i32 ((timesW ((rateW (q0) (q1) (q2) (q3) (f0) (f1) (f2)).a) ((rateW (q0) (q1) (q2) (q3) (f0) (f1) (f2)).b) ((rateW (q0) (q1) (q2) (q3) (f0) (f1) (f2)).c) ((rateW (q0) (q1) (q2) (q3) (f0) (f1) (f2)).d) (q0) (negW (q1)) (negW (q2)) (negW (q3))).c).v, .int .i32 ((timesW ((rateW (q0) (q1) (q2) (q3) (f0) (f1) (f2)).a) ((rateW (q0) (q1) (q2) (q3) (f0) (f1) (f2)).b) ((rateW (q0) (q1) (q2) (q3) (f0) (f1) (f2)).c) ((rateW (q0) (q1) (q2) (q3) (f0) (f1) (f2)).d) (q0) (negW (q1)) (negW (q2)) (negW (q3))).d).v]
    have z0 := hb.cell' (i := 0) rfl
    have f0 := hb.frozen 0
    have z1 := hb.cell' (i := 1) rfl
    have f1 := hb.frozen 1
    have z2 := hb.cell' (i := 2) rfl
    have f2 := hb.frozen 2
    have z3 := hb.cell' (i := 3) rfl
    have f3 := hb.frozen 3
    clear hp hK
    go_simp
    exact hk _ ((((hb.set_ 0 _).set_ 1 _).set_ 2 _).set_ 3 _) (((((Chg.refl wu _).setCell _ _ (.inl (by simp))).setCell _ _ (.inl (by simp))).setCell _ _ (.inl (by simp))).setCell _ _ (.inl (by simp))) (by simp)

end Go.Proofs.YtbmfcedndbgpoaaGreat
