/- total of package works at numbers. -/
import Derived.Test.YtkfkoobdmnndcaaGreatWorks2
namespace Go.Proofs.YtkfkoobdmnndcaaGreat
open Go.RowKit Go.Deep
set_option linter.unusedVariables false
def tcells (l : List Tm) : List Value := l.flatMap fun t => [.int .i64 t.a, .int .i64 t.b, .bool t.less]
theorem totalW_take (ps qs : List Wd) (t : Tm) (l : List Tm) (k : Nat) (h : k < l.length) : totalW ps qs t (l.take (k + 1)) = put1 ps qs (totalW ps qs t (l.take k)) l[k] := by
  unfold totalW; rw [List.take_add_one, List.getElem?_eq_getElem h, List.foldl_append]; rfl
theorem tcells_length (l : List Tm) : (tcells l).length = 3 * l.length := by
  induction l with
  | nil => rfl
  | cons t l ih => show (_ :: _ :: _ :: tcells l).length = _; simp [ih]; omega
theorem tcells_at (l : List Tm) (k : Nat) (h : k < l.length) : (tcells l)[3 * k]? = some (.int .i64 (l[k]).a) ∧ (tcells l)[3 * k + 1]? = some (.int .i64 (l[k]).b) ∧ (tcells l)[3 * k + 2]? = some (.bool (l[k]).less) := by
  induction l generalizing k with
  | nil => simp at h
  | cons t l ih =>
    cases k with
    | zero => exact ⟨rfl, rfl, rfl⟩
    | succ k =>
      have := ih k (by simpa using h)
      simpa [tcells, show 3 * (k + 1) = 3 * k + 1 + 1 + 1 by omega] using this
theorem pick_at {w : World} {A : Option Addr} {n c : Nat} {l : List Wd} {k : Nat} (h : Sl w (.slice A n c) (wds l)) (hk : k < l.length) : ∃ b off, A = some ⟨b, off, none⟩ ∧ w.cell? ⟨b, off + k, none⟩ = some (.int .i32 (pick l k).v) := by
  obtain ⟨b, off, hA, hc, _⟩ := h.at_ (wds_at l k hk)
  exact ⟨b, off, hA, by rw [hc]; unfold pick; rw [List.getD_eq_getElem?_getD, List.getElem?_eq_getElem hk]; rfl⟩
set_option maxRecDepth 100000 in
set_option maxHeartbeats 4000000 in
theorem wtotal_calls (p : Addr) (ps qs : List Wd) (t : Tm) (l : List Tm) (Ap Aq : Option Addr) (np nq cp cq g : Nat) (w : World)
    (hp : Sl w (.slice Ap np cp) (wds ps)) (hq : Sl w (.slice Aq nq cq) (wds qs)) (hg : Blk w g 92 (tcells (t :: l)))
    (hn : l.length ≤ 100) (hta : ∀ x ∈ t :: l, x.a < ps.length ∧ x.b < qs.length) (hnp : np = ps.length) (hnq : nq = qs.length) (hps : ps.length ≤ 100) (hqs : qs.length ≤ 100) (hl1 : 1 ≤ l.length) :
    Calls Tryz.prog 118 #[.agg #[.iface 59 (.pointer (some p))], .slice Ap np cp, .slice Aq nq cq, .slice (some ⟨g, 0, none⟩) (l.length + 1) (l.length + 1)] w fun e w' => e = .returned (.int .i32 (totalW ps qs t l).v) ∧ Chg w w' [] := by
  subst hnp
  subst hnq
  have ht := hta t (by simp)
  obtain ⟨bp, op, rfl, hcp⟩ := pick_at hp ht.1
  obtain ⟨bq, oq, rfl, hcq⟩ := pick_at hq ht.2
  have a1 : ((t.a : Nat) : Int) < (ps.length : Int) := by have := ht.1; omega
  have a2 : ((t.b : Nat) : Int) < (qs.length : Int) := by have := ht.2; omega
  have HP := hide hp
  have HQ := hide hq
  have HG := hide hg
  have HT := hide hta
  clear hp hq hta ht
  have hA := (Chg.refl w []).alloc (.cells #[.iface 59 (.pointer (some p))] 40)
  have hcp' := hA.cell hcp (by simp)
  have hcq' := hA.cell hcq (by simp)
  have hg' := hg.chg hA (by simp)
  have t0 := hg'.cell' (i := 0) rfl
  have t1 := hg'.cell' (i := 1) rfl
  have t2 := hg'.cell' (i := 2) rfl
  clear hcp hcq hg hg' hA
  have HE0 : Hid (totalW ps qs t (l.take 0) = tot0 ps qs t) := hide rfl
  have k0 := Blk.new w 40 [.iface 59 (.pointer (some p))]
  have m0 := k0
  have g0_0 := m0.cell' (i := 0) rfl
  have HC := hide ((Chg.refl w []).alloc (.cells #[.iface 59 (.pointer (some p))] 40))
  clear k0
  clear m0
  have h1 := nil_const p
  have h2 := meth_const p
  go_enter Tryz.func118, Tryz.ntmps118
  go_wp2_with fail
  generalize (w.alloc (.cells #[.iface 59 (.pointer (some p))] 40)) = w6 at *
  go_region_held3 (fun w' => Chg w6 w' [] ∧ w'.cell? ⟨w.heap.size, 0, none⟩ = some (.iface 59 (.pointer (some p))) ∧ w'.cell? ⟨g, 0, none⟩ = some (.int .i64 t.a) ∧ w'.cell? ⟨g, 1, none⟩ = some (.int .i64 t.b) ∧ w'.cell? ⟨g, 2, none⟩ = some (.bool t.less) ∧ w'.cell? ⟨bp, op + t.a, none⟩ = some (.int .i32 (pick ps t.a).v) ∧ w'.cell? ⟨bq, oq + t.b, none⟩ = some (.int .i32 (pick qs t.b).v))
    (first | exact ⟨(Chg.refl w6 []).drew, g0_0, t0, t1, t2, hcp', hcq'⟩ | exact keep6 hcX (by assumption))
    (first | (go_at_call 70; refine (w_mulq p _ _ _).mono ?_; rintro e w7 ⟨rfl, hcX⟩))
  have hlast := ‹Chg w6 _ [] ∧ _›
  have hx := HC.out.trans hlast.1 (D' := []) (by simp)
  have g7 := hlast.2.1
  have t27 := hlast.2.2.2.2.1
  clear hlast t0 t1 t2 hcp' hcq' g0_0 HC
  have HC := hide hx
  clear hx
  have hne : ¬ l = [] := by intro e; rw [e] at hl1; simp at hl1
  cases hless : t.less
  · rw [hless] at t27
    go_wp2_with fail
    go_loopw [9, 42] (fun s i wr => ∃ k : Nat, k ≤ l.length ∧ i = .int .i64 k ∧ s = .int .i32 (totalW ps qs t (l.take k)).v ∧ Hid (Chg w7 wr [])) (fun _ i _ => l.length - (intOf i).toNat)
    case atStart => exact ⟨0, Nat.zero_le _, rfl, by rw [HE0.out]; unfold tot0; rw [hless]; rfl, Chg.refl w7 []⟩
    case round =>
      obtain ⟨k, hk, rfl, rfl, HK⟩ := hrel
      by_cases hlt : k < l.length
      · have hc6 := HC.out.trans HK.out (D' := []) (by simp)
        have hgr := HK.out.cell g7 (by simp)
        obtain ⟨e1, e2, e3⟩ := tcells_at (t :: l) (k + 1) (by simp; omega)
        have hG := HG.out.chg hc6 (by simp)
        have d0 := hG.cell' e1
        have d1 := hG.cell' e2
        have d2 := hG.cell' e3
        have hel : (t :: l)[k + 1]'(by simp; omega) = l[k] := rfl
        rw [hel] at d0 d1 d2
        have hm := HT.out l[k] (by simp)
        clear e1 e2 e3 hel hG
        rw [show 3 * (k + 1) = 3 + k * 3 by omega] at d0 d1 d2
        obtain ⟨bp', op', hA, hx1⟩ := pick_at (HP.out.keep hc6) hm.1
        injection hA with hA
        injection hA with hA1 hA2 _
        subst hA1 hA2
        obtain ⟨bq', oq', hA, hx2⟩ := pick_at (HQ.out.keep hc6) hm.2
        injection hA with hA
        injection hA with hA1 hA2 _
        subst hA1 hA2
        clear hc6
        have HE := hide (totalW_take ps qs t l k hlt)
        generalize totalW ps qs t (l.take k) = s at *
        generalize l[k] = y at *
        have b1 : ((y.a : Nat) : Int) < (ps.length : Int) := by have := hm.1; omega
        have b2 : ((y.b : Nat) : Int) < (qs.length : Int) := by have := hm.2; omega
        clear hm
        generalize hless2 : y.less = ls at *
        cases ls
        · go_wp2_with fail
          have n0 := Blk.new wr 92 [.int .i64 y.a, .int .i64 y.b, .bool false]
          have f0 := n0.cell' (i := 0) rfl
          have f1 := n0.cell' (i := 1) rfl
          have f2 := n0.cell' (i := 2) rfl
          have hAl := (Chg.refl wr []).alloc (.cells #[.int .i64 y.a, .int .i64 y.b, .bool false] 92)
          have hx1' := hAl.cell hx1 (by simp)
          have hx2' := hAl.cell hx2 (by simp)
          have hgr' := hAl.cell hgr (by simp)
          have HA := hide hAl
          clear n0 hAl hx1 hx2 hgr d0 d1 d2
          generalize (wr.alloc (.cells #[.int .i64 y.a, .int .i64 y.b, .bool false] 92)) = w8 at *
          go_region_held3 (fun w' => Chg w8 w' [] ∧ w'.cell? ⟨w.heap.size, 0, none⟩ = some (.iface 59 (.pointer (some p))) ∧ w'.cell? ⟨wr.heap.size, 0, none⟩ = some (.int .i64 y.a) ∧ w'.cell? ⟨wr.heap.size, 1, none⟩ = some (.int .i64 y.b) ∧ w'.cell? ⟨wr.heap.size, 2, none⟩ = some (.bool false) ∧ w'.cell? ⟨bp, op + y.a, none⟩ = some (.int .i32 (pick ps y.a).v) ∧ w'.cell? ⟨bq, oq + y.b, none⟩ = some (.int .i32 (pick qs y.b).v))
            (first | exact ⟨(Chg.refl w8 []).drew, hgr', f0, f1, f2, hx1', hx2'⟩ | exact keep6 hcX (by assumption))
            (first | (go_at_call 70; refine (w_mulq p _ _ _).mono ?_; rintro e w7 ⟨rfl, hcX⟩))
          have hlast := ‹Chg w8 _ [] ∧ _›
          have HK3 := hide (HK.out.trans (HA.out.trans hlast.1 (D := []) (by simp)) (D' := []) (by simp))
          have g9 := hlast.2.1
          have g92 := hlast.2.2.2.2.1
          clear hlast f0 f1 f2 hx1' hx2' hgr' HA HK
          go_wp2_with fail
          refine (w_adds p _ _ _).mono ?_
          rintro e w10 ⟨rfl, hcX⟩
          have HK4 := hide (HK3.out.trans hcX (by simp))
          clear hcX g9 g92
          go_wp2
          go_roundw
          case rel => exact ⟨k + 1, by omega, by go_num, by rw [HE.out]; unfold put1; rw [hless2]; rfl, HK4⟩
          case measure => simp [intOf]; omega
        · go_wp2_with fail
          have n0 := Blk.new wr 92 [.int .i64 y.a, .int .i64 y.b, .bool true]
          have f0 := n0.cell' (i := 0) rfl
          have f1 := n0.cell' (i := 1) rfl
          have f2 := n0.cell' (i := 2) rfl
          have hAl := (Chg.refl wr []).alloc (.cells #[.int .i64 y.a, .int .i64 y.b, .bool true] 92)
          have hx1' := hAl.cell hx1 (by simp)
          have hx2' := hAl.cell hx2 (by simp)
          have hgr' := hAl.cell hgr (by simp)
          have HA := hide hAl
          clear n0 hAl hx1 hx2 hgr d0 d1 d2
          generalize (wr.alloc (.cells #[.int .i64 y.a, .int .i64 y.b, .bool true] 92)) = w8 at *
          go_region_held3 (fun w' => Chg w8 w' [] ∧ w'.cell? ⟨w.heap.size, 0, none⟩ = some (.iface 59 (.pointer (some p))) ∧ w'.cell? ⟨wr.heap.size, 0, none⟩ = some (.int .i64 y.a) ∧ w'.cell? ⟨wr.heap.size, 1, none⟩ = some (.int .i64 y.b) ∧ w'.cell? ⟨wr.heap.size, 2, none⟩ = some (.bool true) ∧ w'.cell? ⟨bp, op + y.a, none⟩ = some (.int .i32 (pick ps y.a).v) ∧ w'.cell? ⟨bq, oq + y.b, none⟩ = some (.int .i32 (pick qs y.b).v))
            (first | exact ⟨(Chg.refl w8 []).drew, hgr', f0, f1, f2, hx1', hx2'⟩ | exact keep6 hcX (by assumption))
            (first | (go_at_call 70; refine (w_mulq p _ _ _).mono ?_; rintro e w7 ⟨rfl, hcX⟩))
          have hlast := ‹Chg w8 _ [] ∧ _›
          have HK3 := hide (HK.out.trans (HA.out.trans hlast.1 (D := []) (by simp)) (D' := []) (by simp))
          have g9 := hlast.2.1
          have g92 := hlast.2.2.2.2.1
          clear hlast f0 f1 f2 hx1' hx2' hgr' HA HK
          go_wp2_with fail
          refine (w_subs p _ _ _).mono ?_
          rintro e w10 ⟨rfl, hcX⟩
          have HK4 := hide (HK3.out.trans hcX (by simp))
          clear hcX g9 g92
          go_wp2
          go_roundw
          case rel => exact ⟨k + 1, by omega, by go_num, by rw [HE.out]; unfold put1; rw [hless2]; rfl, HK4⟩
          case measure => simp [intOf]; omega
      · have hk : k = l.length := by omega
        subst hk
        rw [List.take_length]
        go_wp2
        go_ret
        exact ⟨rfl, HC.out.trans HK.out (by simp)⟩
  · rw [hless] at t27
    go_wp2_with fail
    go_region_held3 (fun w' => Chg w7 w' [] ∧ w'.cell? ⟨w.heap.size, 0, none⟩ = some (.iface 59 (.pointer (some p))))
      (first | exact ⟨(Chg.refl w7 []).drew, g7⟩ | exact keep1 hcX (by assumption))
      (first | (go_at_call 139; refine (w_const p _ _ (by decide)).mono ?_; rintro e w11 ⟨rfl, hcX⟩) | (go_at_call 103; refine (w_subs p _ _ _).mono ?_; rintro e w11 ⟨rfl, hcX⟩))
    have hlast := ‹Chg w7 _ [] ∧ _›
    have hx := HC.out.trans hlast.1 (D' := []) (by simp)
    have g11 := hlast.2
    clear hlast g7 HC
    have HC := hide hx
    clear hx
    go_wp2_with fail
    go_loopw [9, 42] (fun s i wr => ∃ k : Nat, k ≤ l.length ∧ i = .int .i64 k ∧ s = .int .i32 (totalW ps qs t (l.take k)).v ∧ Hid (Chg w11 wr [])) (fun _ i _ => l.length - (intOf i).toNat)
    case atStart => exact ⟨0, Nat.zero_le _, rfl, by rw [HE0.out]; unfold tot0; rw [hless]; rfl, Chg.refl w11 []⟩
    case round =>
      obtain ⟨k, hk, rfl, rfl, HK⟩ := hrel
      by_cases hlt : k < l.length
      · have hc6 := HC.out.trans HK.out (D' := []) (by simp)
        have hgr := HK.out.cell g11 (by simp)
        obtain ⟨e1, e2, e3⟩ := tcells_at (t :: l) (k + 1) (by simp; omega)
        have hG := HG.out.chg hc6 (by simp)
        have d0 := hG.cell' e1
        have d1 := hG.cell' e2
        have d2 := hG.cell' e3
        have hel : (t :: l)[k + 1]'(by simp; omega) = l[k] := rfl
        rw [hel] at d0 d1 d2
        have hm := HT.out l[k] (by simp)
        clear e1 e2 e3 hel hG
        rw [show 3 * (k + 1) = 3 + k * 3 by omega] at d0 d1 d2
        obtain ⟨bp', op', hA, hx1⟩ := pick_at (HP.out.keep hc6) hm.1
        injection hA with hA
        injection hA with hA1 hA2 _
        subst hA1 hA2
        obtain ⟨bq', oq', hA, hx2⟩ := pick_at (HQ.out.keep hc6) hm.2
        injection hA with hA
        injection hA with hA1 hA2 _
        subst hA1 hA2
        clear hc6
        have HE := hide (totalW_take ps qs t l k hlt)
        generalize totalW ps qs t (l.take k) = s at *
        generalize l[k] = y at *
        have b1 : ((y.a : Nat) : Int) < (ps.length : Int) := by have := hm.1; omega
        have b2 : ((y.b : Nat) : Int) < (qs.length : Int) := by have := hm.2; omega
        clear hm
        generalize hless2 : y.less = ls at *
        cases ls
        · go_wp2_with fail
          have n0 := Blk.new wr 92 [.int .i64 y.a, .int .i64 y.b, .bool false]
          have f0 := n0.cell' (i := 0) rfl
          have f1 := n0.cell' (i := 1) rfl
          have f2 := n0.cell' (i := 2) rfl
          have hAl := (Chg.refl wr []).alloc (.cells #[.int .i64 y.a, .int .i64 y.b, .bool false] 92)
          have hx1' := hAl.cell hx1 (by simp)
          have hx2' := hAl.cell hx2 (by simp)
          have hgr' := hAl.cell hgr (by simp)
          have HA := hide hAl
          clear n0 hAl hx1 hx2 hgr d0 d1 d2
          generalize (wr.alloc (.cells #[.int .i64 y.a, .int .i64 y.b, .bool false] 92)) = w8 at *
          go_region_held3 (fun w' => Chg w8 w' [] ∧ w'.cell? ⟨w.heap.size, 0, none⟩ = some (.iface 59 (.pointer (some p))) ∧ w'.cell? ⟨wr.heap.size, 0, none⟩ = some (.int .i64 y.a) ∧ w'.cell? ⟨wr.heap.size, 1, none⟩ = some (.int .i64 y.b) ∧ w'.cell? ⟨wr.heap.size, 2, none⟩ = some (.bool false) ∧ w'.cell? ⟨bp, op + y.a, none⟩ = some (.int .i32 (pick ps y.a).v) ∧ w'.cell? ⟨bq, oq + y.b, none⟩ = some (.int .i32 (pick qs y.b).v))
            (first | exact ⟨(Chg.refl w8 []).drew, hgr', f0, f1, f2, hx1', hx2'⟩ | exact keep6 hcX (by assumption))
            (first | (go_at_call 70; refine (w_mulq p _ _ _).mono ?_; rintro e w7 ⟨rfl, hcX⟩))
          have hlast := ‹Chg w8 _ [] ∧ _›
          have HK3 := hide (HK.out.trans (HA.out.trans hlast.1 (D := []) (by simp)) (D' := []) (by simp))
          have g9 := hlast.2.1
          have g92 := hlast.2.2.2.2.1
          clear hlast f0 f1 f2 hx1' hx2' hgr' HA HK
          go_wp2_with fail
          refine (w_adds p _ _ _).mono ?_
          rintro e w10 ⟨rfl, hcX⟩
          have HK4 := hide (HK3.out.trans hcX (by simp))
          clear hcX g9 g92
          go_wp2
          go_roundw
          case rel => exact ⟨k + 1, by omega, by go_num, by rw [HE.out]; unfold put1; rw [hless2]; rfl, HK4⟩
          case measure => simp [intOf]; omega
        · go_wp2_with fail
          have n0 := Blk.new wr 92 [.int .i64 y.a, .int .i64 y.b, .bool true]
          have f0 := n0.cell' (i := 0) rfl
          have f1 := n0.cell' (i := 1) rfl
          have f2 := n0.cell' (i := 2) rfl
          have hAl := (Chg.refl wr []).alloc (.cells #[.int .i64 y.a, .int .i64 y.b, .bool true] 92)
          have hx1' := hAl.cell hx1 (by simp)
          have hx2' := hAl.cell hx2 (by simp)
          have hgr' := hAl.cell hgr (by simp)
          have HA := hide hAl
          clear n0 hAl hx1 hx2 hgr d0 d1 d2
          generalize (wr.alloc (.cells #[.int .i64 y.a, .int .i64 y.b, .bool true] 92)) = w8 at *
          go_region_held3 (fun w' => Chg w8 w' [] ∧ w'.cell? ⟨w.heap.size, 0, none⟩ = some (.iface 59 (.pointer (some p))) ∧ w'.cell? ⟨wr.heap.size, 0, none⟩ = some (.int .i64 y.a) ∧ w'.cell? ⟨wr.heap.size, 1, none⟩ = some (.int .i64 y.b) ∧ w'.cell? ⟨wr.heap.size, 2, none⟩ = some (.bool true) ∧ w'.cell? ⟨bp, op + y.a, none⟩ = some (.int .i32 (pick ps y.a).v) ∧ w'.cell? ⟨bq, oq + y.b, none⟩ = some (.int .i32 (pick qs y.b).v))
            (first | exact ⟨(Chg.refl w8 []).drew, hgr', f0, f1, f2, hx1', hx2'⟩ | exact keep6 hcX (by assumption))
            (first | (go_at_call 70; refine (w_mulq p _ _ _).mono ?_; rintro e w7 ⟨rfl, hcX⟩))
          have hlast := ‹Chg w8 _ [] ∧ _›
          have HK3 := hide (HK.out.trans (HA.out.trans hlast.1 (D := []) (by simp)) (D' := []) (by simp))
          have g9 := hlast.2.1
          have g92 := hlast.2.2.2.2.1
          clear hlast f0 f1 f2 hx1' hx2' hgr' HA HK
          go_wp2_with fail
          refine (w_subs p _ _ _).mono ?_
          rintro e w10 ⟨rfl, hcX⟩
          have HK4 := hide (HK3.out.trans hcX (by simp))
          clear hcX g9 g92
          go_wp2
          go_roundw
          case rel => exact ⟨k + 1, by omega, by go_num, by rw [HE.out]; unfold put1; rw [hless2]; rfl, HK4⟩
          case measure => simp [intOf]; omega
      · have hk : k = l.length := by omega
        subst hk
        rw [List.take_length]
        go_wp2
        go_ret
        exact ⟨rfl, HC.out.trans HK.out (by simp)⟩
end Go.Proofs.YtkfkoobdmnndcaaGreat
