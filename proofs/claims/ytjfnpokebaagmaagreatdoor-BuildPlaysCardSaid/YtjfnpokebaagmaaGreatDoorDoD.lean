/- BuildPlays: does. -/
import Derived.Test.YtjfnpokebaagmaaGreatDoorDoC
import Derived.Test.YtjfnpokebaagmaaGreatDoorDoF
namespace Go.Proofs.YtjfnpokebaagmaaGreatDoor
open Go Go.RowKit Go.Deep Go.Maps Go.Proofs.YtjfnpokebaagmaaGreatDoor.Xi
set_option linter.unusedVariables false
attribute [local go_sem] Oper.semAt_some
set_option maxRecDepth 100000 in
set_option maxHeartbeats 8000000 in
theorem does_calls (tb b x : Nat) (A : Option Addr) (c : Nat) (l : List ActL) (hl : l.length ≤ 60) (hok : ∀ a ∈ l, ActOk a) : ∀ m, (∀ m', m = m' + 1 → DoesAt tb b x A c l m') → DoesAt tb b x A c l m := by
    intro m ih j0 dep k bm F w hm hj hdep hst hsz hasl hAF
    have HIH : Hid (j0 < l.length → DoesAt tb b x A c l (m - 1)) := hide (fun h => ih (m - 1) (by omega))
    have HST := hide hst
    have HSZ := hide hsz
    have HASL := hide hasl
    have HAF := hide hAF
    have HOK := hide hok
    have HM := hide hm
    have HJ := hide hj
    have HD := hide hdep
    have hmix : Tryz.prog.follows .mixedOrders = true := by kernel_rfl
    replace hmix := hide hmix
    clear ih hst hsz hasl hAF hok hm hj hdep
    have hb4 : Blk ((((w.alloc (.cells #[.pointer (some ⟨tb, 0, none⟩)] 28)).alloc (.cells #[.slice A l.length c] 22)).alloc (.cells #[.int .i64 j0] 3)).alloc (.cells #[.int .i64 dep] 3)) w.heap.size 28 [.pointer (some ⟨tb, 0, none⟩)] := (((Blk.new w _ _).alloc _).alloc _).alloc _
    have hb5 : Blk ((((w.alloc (.cells #[.pointer (some ⟨tb, 0, none⟩)] 28)).alloc (.cells #[.slice A l.length c] 22)).alloc (.cells #[.int .i64 j0] 3)).alloc (.cells #[.int .i64 dep] 3)) (w.heap.size + 1) 22 [.slice A l.length c] := by
      have h := Blk.new (w.alloc (.cells #[.pointer (some ⟨tb, 0, none⟩)] 28)) 22 [.slice A l.length c]
      rw [size_alloc] at h
      exact (h.alloc _).alloc _
    have hb6 : Blk ((((w.alloc (.cells #[.pointer (some ⟨tb, 0, none⟩)] 28)).alloc (.cells #[.slice A l.length c] 22)).alloc (.cells #[.int .i64 j0] 3)).alloc (.cells #[.int .i64 dep] 3)) (w.heap.size + 2) 3 [.int .i64 j0] := by
      have h := Blk.new ((w.alloc (.cells #[.pointer (some ⟨tb, 0, none⟩)] 28)).alloc (.cells #[.slice A l.length c] 22)) 3 [.int .i64 j0]
      rw [size_alloc, size_alloc] at h
      exact h.alloc _
    have hb7 : Blk ((((w.alloc (.cells #[.pointer (some ⟨tb, 0, none⟩)] 28)).alloc (.cells #[.slice A l.length c] 22)).alloc (.cells #[.int .i64 j0] 3)).alloc (.cells #[.int .i64 dep] 3)) (w.heap.size + 3) 3 [.int .i64 dep] := by
      have h := Blk.new (((w.alloc (.cells #[.pointer (some ⟨tb, 0, none⟩)] 28)).alloc (.cells #[.slice A l.length c] 22)).alloc (.cells #[.int .i64 j0] 3)) 3 [.int .i64 dep]
      rw [size_alloc, size_alloc, size_alloc] at h
      exact h
    have ha0 : After w ((((w.alloc (.cells #[.pointer (some ⟨tb, 0, none⟩)] 28)).alloc (.cells #[.slice A l.length c] 22)).alloc (.cells #[.int .i64 j0] 3)).alloc (.cells #[.int .i64 dep] 3)) tb b x bm bm F := ((((After.refl HST.out).alloc _).alloc _).alloc _).alloc _
    have HB4 := hide hb4
    have HB5 := hide hb5
    have HB6 := hide hb6
    have HB7 := hide hb7
    have HA0 := hide ha0
    clear hb4 hb5 hb6 hb7 ha0
    have hLI0 : LI w tb b x (.slice A l.length c) j0 k l.length dep F ((((w.alloc (.cells #[.pointer (some ⟨tb, 0, none⟩)] 28)).alloc (.cells #[.slice A l.length c] 22)).alloc (.cells #[.int .i64 j0] 3)).alloc (.cells #[.int .i64 dep] 3)) j0 bm := by
      obtain ⟨hc, F', hs, hst⟩ := HA0.out
      refine ⟨Nat.le_refl _, HJ.out, hc, ⟨F, fun k hk => .inl hk, HST.out.chg (((((Chg.refl w []).alloc _).alloc _).alloc _).alloc _) (by simp)⟩, HSZ.out, HB4.out, HB5.out, HB6.out, HB7.out⟩
    have HLI0 := hide hLI0
    have HFL := hide HST.out.lt
    have HTF := hide HST.out.tbF
    clear HB4 HB5 HB6 HB7 HA0 hLI0 HST HSZ
    go_enter Tryz.func7, Tryz.ntmps7
    go_wp2
    go_loopw [] (fun wr => ∃ (j : Nat) (bj : BM), j ≤ l.length ∧ Hid (LI w tb b x (.slice A l.length c) j0 k l.length dep F wr j bj)) (fun wr => l.length - atOf wr (w.heap.size + 2))
    case atStart => exact ⟨j0, bm, HJ.out, HLI0⟩
    case round =>
      obtain ⟨j, bj, hj2, HLI⟩ := hrel
      clear HLI0
      have c4 := HLI.out.b4.cell' (i := 0) rfl
      have c5 := HLI.out.b5.cell' (i := 0) rfl
      have c6 := HLI.out.b6.cell' (i := 0) rfl
      have c7 := HLI.out.b7.cell' (i := 0) rfl
      have f6 := HLI.out.b6.frozen 0
      have ct := HLI.out.b2
      have l6 := HLI.out.b6.lt
      by_cases hlt : j < l.length
      · have hlt' : decide ((j : Int) < (l.length : Int)) = true := by simpa using hlt
        obtain ⟨lb, off, rfl, hx⟩ := HASL.out (by omega)
        have hk : l[j]? = some l[j] := List.getElem?_eq_getElem hlt
        have hx := hx j l[j] hk
        have hoka := HOK.out l[j] (List.getElem_mem hlt)
        generalize l[j] = a at hx hoka
        obtain ⟨kind, ⟨op, d, ai, bi, ni⟩, nm, ac, al, an⟩ := a
        have HX : Hid (∀ (i : Nat) (v : Value), (actCells ⟨kind, ⟨op, d, ai, bi, ni⟩, nm, ac, al, an⟩)[i]? = some v → wr.cell? ⟨lb, off + j * 10 + i, none⟩ = some v) := hide (fun i v hv => HLI.out.chg.cell (hx i v hv) (show lb ∉ F from HAF.out (by omega) ⟨lb, off, none⟩ rfl))
        have hlb : lb < wr.heap.size := World.block_lt_of_cell? _ _ (HX.out 0 _ rfl)
        have d0 : wr.cell? ⟨lb, off + j * 10, none⟩ = some (.int .i64 kind) := HX.out 0 _ rfl
        have d1 : wr.cell? ⟨lb, off + j * 10 + 1, none⟩ = some (.int .i64 op) := HX.out 1 _ rfl
        have d2 : wr.cell? ⟨lb, off + j * 10 + 2, none⟩ = some (.int .i64 d) := HX.out 2 _ rfl
        have d3 : wr.cell? ⟨lb, off + j * 10 + 3, none⟩ = some (.int .i64 ai) := HX.out 3 _ rfl
        have d4 : wr.cell? ⟨lb, off + j * 10 + 4, none⟩ = some (.int .i64 bi) := HX.out 4 _ rfl
        have d5 : wr.cell? ⟨lb, off + j * 10 + 5, none⟩ = some (.int .i64 ni) := HX.out 5 _ rfl
        have d6 : wr.cell? ⟨lb, off + j * 10 + 6, none⟩ = some (strV nm) := HX.out 6 _ rfl
        have d7 : wr.cell? ⟨lb, off + j * 10 + 7, none⟩ = some (.int .i64 ac) := HX.out 7 _ rfl
        have d8 : wr.cell? ⟨lb, off + j * 10 + 8, none⟩ = some (.int .i64 al) := HX.out 8 _ rfl
        have d9 : wr.cell? ⟨lb, off + j * 10 + 9, none⟩ = some (.int .i32 an) := HX.out 9 _ rfl
        have HOKA := hide hoka
        have HMID := hide (HLI.out.mid hlt HFL.out (actCells ⟨kind, ⟨op, d, ai, bi, ni⟩, nm, ac, al, an⟩))
        clear hx hk hoka HX
        unfold strV at d6
        by_cases hkd : kind = 0
        · subst hkd
          obtain ⟨F5, hmid⟩ := HMID.out
          obtain ⟨q1, q2, hq⟩ : ∃ q1 q2, insM bj ⟨op, d, ai, bi, ni⟩ = (q1, q2) := ⟨_, _, rfl⟩
          have HS0 := hide HLI.out.siz
          have z1 := HS0.out.code
          have z2 := HS0.out.uses
          have z3 := HS0.out.defs
          have z4 := HOKA.out.2
          have z5 := HOKA.out.1.1
          have z6 := HOKA.out.1.2
          simp only [] at z4 z5 z6
          have HSQ : Hid (Siz q2 (j + 1) k) := hide (by have := HS0.out.ins ⟨op, d, ai, bi, ni⟩; rw [hq] at this; exact this)
          have HPC : Hid (∀ (wy : World) (FP : List Nat), PB wy b bj FP → Calls Tryz.prog 16 #[.pointer (some ⟨b, 0, none⟩), .agg #[.int .i64 op, .int .i64 d, .int .i64 ai, .int .i64 bi, .int .i64 ni]] wy (GoP (q1, q2) b FP wy)) := hide (by
            intro wy FP hp
            have := ins_calls hp ⟨op, d, ai, bi, ni⟩ (by omega)
            rw [hq] at this
            unfold insVal at this
            exact this)
          have HRC : Hid (∀ (wy : World) (FR : List Nat), RB wy x bj FR → Calls Tryz.prog 26 #[.pointer (some ⟨x, 0, none⟩), .agg #[.int .i64 op, .int .i64 d, .int .i64 ai, .int .i64 bi, .int .i64 ni]] wy (GoR (q1, q2) x FR wy)) := hide (by
            intro wy FR hp
            have := rins_calls hp ⟨op, d, ai, bi, ni⟩ (by omega)
            rw [hq] at this
            unfold insVal at this
            exact this)
          clear hq z1 z2 z3 z4 z5 z6 HS0
          go_upto_region 6 with (fail)
          change Code.wp _ _ _ _ ((wr.setCell ⟨w.heap.size + 2, 0, none⟩ (.int .i64 ((j + 1 : Nat) : Int))).alloc (.cells (actCells ⟨0, ⟨op, d, ai, bi, ni⟩, nm, ac, al, an⟩).toArray 27))
          generalize ((wr.setCell ⟨w.heap.size + 2, 0, none⟩ (.int .i64 ((j + 1 : Nat) : Int))).alloc (.cells (actCells ⟨0, ⟨op, d, ai, bi, ni⟩, nm, ac, al, an⟩).toArray 27)) = w5 at hmid ⊢
          have hka := hmid.hsz
          generalize wr.heap.size = ka at *
          have K4 : w5.cell? ⟨w.heap.size, 0, none⟩ = some (.pointer (some ⟨tb, 0, none⟩)) := hmid.b4.cell' (i := 0) rfl
          have N4 : w.heap.size ∉ F5 := fun hm => by have := hmid.hn _ hm; omega
          have NA : ka ∉ F5 := fun hm => by have := hmid.hn _ hm; omega
          have A0 : w5.cell? ⟨ka, 0, none⟩ = some (.int .i64 0) := hmid.ba.cell' (i := 0) rfl
          have A1 : w5.cell? ⟨ka, 1, none⟩ = some (.int .i64 op) := hmid.ba.cell' (i := 1) rfl
          have A2 : w5.cell? ⟨ka, 2, none⟩ = some (.int .i64 d) := hmid.ba.cell' (i := 2) rfl
          have A3 : w5.cell? ⟨ka, 3, none⟩ = some (.int .i64 ai) := hmid.ba.cell' (i := 3) rfl
          have A4 : w5.cell? ⟨ka, 4, none⟩ = some (.int .i64 bi) := hmid.ba.cell' (i := 4) rfl
          have A5 : w5.cell? ⟨ka, 5, none⟩ = some (.int .i64 ni) := hmid.ba.cell' (i := 5) rfl
          have A6 : w5.cell? ⟨ka, 6, none⟩ = some (.string ⟨nm.toArray⟩) := hmid.ba.cell' (i := 6) rfl
          have A7 : w5.cell? ⟨ka, 7, none⟩ = some (.int .i64 ac) := hmid.ba.cell' (i := 7) rfl
          have A8 : w5.cell? ⟨ka, 8, none⟩ = some (.int .i64 al) := hmid.ba.cell' (i := 8) rfl
          have A9 : w5.cell? ⟨ka, 9, none⟩ = some (.int .i32 an) := hmid.ba.cell' (i := 9) rfl
          clear c4 c5 c6 c7 f6 ct l6 d0 d1 d2 d3 d4 d5 d6 d7 d8 d9 HMID hka hlb
          refine wp_regionJ hmix.out _ _ (fun _ => vD6 w tb b x ka (0) op d ai bi ni nm ac al an q1) (fun (_ : Unit) L w' => WDL 7 14 w5 tb b x bj q2 F5 L w') () (by kernel_rfl) [] (by kernel_rfl) (fun p hp γ => by simp at hp) (by kernel_rfl) ?step ?start ?fin ?ext
          case start => exact (After.refl hmid.st).drew
          case ext => exact fun γ L L' w' h hw => hw.ext (h 7 (by decide)) (h 14 (by decide))
          case step =>
            intro i o ho L av w1 γ hdn htm hW hL hpre K Q hK
            match i, ho with
            | 0, ho =>
             injection ho with ho; subst ho
             have b4 : av.tmps.getD 4 undef = .pointer (some ⟨w.heap.size, 0, none⟩) := slB htm 4 (by kernel_rfl)
             clear htm
             have y := After.cell hW K4 N4
             refine val_now ?_ (hK () w1 (fun _ _ => rfl) (hW.keep (by decide) (by decide))); go_simp; rfl
            | 1, ho =>
             injection ho with ho; subst ho
             have b4 : av.tmps.getD 4 undef = .pointer (some ⟨w.heap.size, 0, none⟩) := slB htm 4 (by kernel_rfl)
             clear htm
             have y := After.cell hW K4 N4
             refine val_now ?_ (hK () w1 (fun _ _ => rfl) (hW.keep (by decide) (by decide))); go_simp; rfl
            | 2, ho =>
             injection ho with ho; subst ho
             have s1 := slA htm 34 1 (by kernel_rfl) (hpre ⟨1, .data⟩ (by simp) rfl)
             simp only [vD6] at s1
             clear htm
             refine val_now ?_ (hK () w1 (fun _ _ => rfl) (hW.keep (by decide) (by decide))); go_simp; rfl
            | 3, ho =>
             injection ho with ho; subst ho
             have s2 := slA htm 35 2 (by kernel_rfl) (hpre ⟨2, .data⟩ (by simp) rfl)
             simp only [vD6] at s2
             clear htm
             refine val_now ?_ (hK () w1 (fun _ _ => rfl) (hW.keep (by decide) (by decide))); go_simp; rfl
            | 4, ho =>
             injection ho with ho; subst ho
             have s3 := slA htm 36 3 (by kernel_rfl) (hpre ⟨3, .data⟩ (by simp) rfl)
             simp only [vD6] at s3
             clear htm
             have y := After.b0 hW
             refine val_now ?_ (hK () w1 (fun _ _ => rfl) (hW.keep (by decide) (by decide))); go_simp; rfl
            | 5, ho =>
             injection ho with ho; subst ho
             have b9 : av.tmps.getD 9 undef = .pointer (some ⟨ka, 0, none⟩) := slB htm 9 (by kernel_rfl)
             clear htm
             refine val_now ?_ (hK () w1 (fun _ _ => rfl) (hW.keep (by decide) (by decide))); go_simp; rfl
            | 6, ho =>
             injection ho with ho; subst ho
             have s5 := slA htm 38 5 (by kernel_rfl) (hpre ⟨5, .data⟩ (by simp) rfl)
             simp only [vD6] at s5
             clear htm
             have y1 := After.cell hW A1 NA
             have y2 := After.cell hW A2 NA
             have y3 := After.cell hW A3 NA
             have y4 := After.cell hW A4 NA
             have y5 := After.cell hW A5 NA
             refine val_now ?_ (hK () w1 (fun _ _ => rfl) (hW.keep (by decide) (by decide))); go_simp; rfl
            | 7, ho =>
             injection ho with ho; subst ho
             have s4 := slA htm 37 4 (by kernel_rfl) (hpre ⟨4, .data⟩ (by simp) rfl)
             have s6 := slA htm 39 6 (by kernel_rfl) (hpre ⟨6, .data⟩ (by simp) rfl)
             simp only [vD6] at s4 s6
             clear htm
             obtain ⟨FP, hPB, hgo⟩ := WDL.prog (q := (q1, q2)) hW hL (by decide)
             refine call_now (f := 16) (args := #[.pointer (some ⟨b, 0, none⟩), .agg #[.int .i64 op, .int .i64 d, .int .i64 ai, .int .i64 bi, .int .i64 ni]]) ?_ (HPC.out _ _ hPB) ?_
             · go_simp
             · intro e w2 hg
               obtain ⟨rfl, hn⟩ := hgo e w2 hg
               exact ⟨_, rfl, hK () w2 (fun _ _ => rfl) hn⟩
            | 8, ho =>
             injection ho with ho; subst ho
             have b4 : av.tmps.getD 4 undef = .pointer (some ⟨w.heap.size, 0, none⟩) := slB htm 4 (by kernel_rfl)
             clear htm
             have y := After.cell hW K4 N4
             refine val_now ?_ (hK () w1 (fun _ _ => rfl) (hW.keep (by decide) (by decide))); go_simp; rfl
            | 9, ho =>
             injection ho with ho; subst ho
             have s8 := slA htm 41 8 (by kernel_rfl) (hpre ⟨8, .data⟩ (by simp) rfl)
             simp only [vD6] at s8
             clear htm
             refine val_now ?_ (hK () w1 (fun _ _ => rfl) (hW.keep (by decide) (by decide))); go_simp; rfl
            | 10, ho =>
             injection ho with ho; subst ho
             have s9 := slA htm 42 9 (by kernel_rfl) (hpre ⟨9, .data⟩ (by simp) rfl)
             simp only [vD6] at s9
             clear htm
             refine val_now ?_ (hK () w1 (fun _ _ => rfl) (hW.keep (by decide) (by decide))); go_simp; rfl
            | 11, ho =>
             injection ho with ho; subst ho
             have s10 := slA htm 43 10 (by kernel_rfl) (hpre ⟨10, .data⟩ (by simp) rfl)
             simp only [vD6] at s10
             clear htm
             have y := After.b1 hW
             refine val_now ?_ (hK () w1 (fun _ _ => rfl) (hW.keep (by decide) (by decide))); go_simp; rfl
            | 12, ho =>
             injection ho with ho; subst ho
             have b9 : av.tmps.getD 9 undef = .pointer (some ⟨ka, 0, none⟩) := slB htm 9 (by kernel_rfl)
             clear htm
             refine val_now ?_ (hK () w1 (fun _ _ => rfl) (hW.keep (by decide) (by decide))); go_simp; rfl
            | 13, ho =>
             injection ho with ho; subst ho
             have s12 := slA htm 45 12 (by kernel_rfl) (hpre ⟨12, .data⟩ (by simp) rfl)
             simp only [vD6] at s12
             clear htm
             have y1 := After.cell hW A1 NA
             have y2 := After.cell hW A2 NA
             have y3 := After.cell hW A3 NA
             have y4 := After.cell hW A4 NA
             have y5 := After.cell hW A5 NA
             refine val_now ?_ (hK () w1 (fun _ _ => rfl) (hW.keep (by decide) (by decide))); go_simp; rfl
            | 14, ho =>
             injection ho with ho; subst ho
             have s11 := slA htm 44 11 (by kernel_rfl) (hpre ⟨11, .data⟩ (by simp) rfl)
             have s13 := slA htm 46 13 (by kernel_rfl) (hpre ⟨13, .data⟩ (by simp) rfl)
             simp only [vD6] at s11 s13
             clear htm
             obtain ⟨FP, hPB, hgo⟩ := WDL.ref (q := (q1, q2)) hW hL (by decide)
             refine call_now (f := 26) (args := #[.pointer (some ⟨x, 0, none⟩), .agg #[.int .i64 op, .int .i64 d, .int .i64 ai, .int .i64 bi, .int .i64 ni]]) ?_ (HRC.out _ _ hPB) ?_
             · go_simp
             · intro e w2 hg
               obtain ⟨rfl, hn⟩ := hgo e w2 hg
               exact ⟨_, rfl, hK () w2 (fun _ _ => rfl) hn⟩
            | 15, ho =>
             injection ho with ho; subst ho
             have s7 := slA htm 40 7 (by kernel_rfl) (hpre ⟨7, .data⟩ (by simp) rfl)
             have s14 := slA htm 47 14 (by kernel_rfl) (hpre ⟨14, .data⟩ (by simp) rfl)
             simp only [vD6] at s7 s14
             clear htm
             refine val_now ?_ (hK () w1 (fun _ _ => rfl) (hW.keep (by decide) (by decide))); go_simp; rfl
            | 16, ho =>
             injection ho with ho; subst ho
             have s0 := slA htm 33 0 (by kernel_rfl) (hpre ⟨0, .data⟩ (by simp) rfl)
             simp only [vD6] at s0
             clear htm
             refine val_now ?_ (hK () w1 (fun _ _ => rfl) (hW.keep (by decide) (by decide))); go_simp; rfl
            | 17, ho =>
             injection ho with ho; subst ho
             have s16 := slA htm 49 16 (by kernel_rfl) (hpre ⟨16, .data⟩ (by simp) rfl)
             simp only [vD6] at s16
             clear htm
             refine val_now ?_ (hK () w1 (fun _ _ => rfl) (hW.keep (by decide) (by decide))); go_simp; rfl
            | 18, ho =>
             injection ho with ho; subst ho
             have s17 := slA htm 50 17 (by kernel_rfl) (hpre ⟨17, .data⟩ (by simp) rfl)
             have s15 := slA htm 48 15 (by kernel_rfl) (hpre ⟨15, .data⟩ (by simp) rfl)
             simp only [vD6] at s17 s15
             clear htm
             have y := After.b2 hW
             have yf := After.fz hW 2
             first | (refine skip_now ?_ (hK () _ (fun _ _ => rfl) (hW.fine (by decide) (by decide))); go_simp; done) | (refine skip_now ?_ (hK () _ (fun _ _ => rfl) (hW.fine (by decide) (by decide))); go_simp; rfl) | (refine val_now ?_ (hK () _ (fun _ _ => rfl) (hW.fine (by decide) (by decide))); fail)
            | _ + 19, ho => cases ho
          case fin =>
            intro γ w8 hW
            have hA : After w5 w8 tb b x q2 q2 F5 := hW
            have HL2 := hide (hmid.next hA HSQ.out)
            have hat1 := HLI.out.b6
            rw [finG_puts, putsR_list, putsL_dst]
            simp only [List.map_cons, List.map_nil]
            rw [puts6]
            simp only [vD6]
            clear hW hA K4 N4 NA A0 A1 A2 A3 A4 A5 A6 A7 A8 A9 hmid
            go_wp2
            rw [atOf_eq hat1, atOf_eq HL2.out.b6]
            exact ⟨⟨j + 1, q2, by omega, HL2⟩, by omega⟩
        have nk0 : (kind == 0) = false := beq_eq_false_iff_ne.2 hkd
        clear hkd
        by_cases hkd : kind = 1
        · subst hkd
          obtain ⟨F5, hmid⟩ := HMID.out
          obtain ⟨q1, q2, hq⟩ : ∃ q1 q2, labelM bj nm = (q1, q2) := ⟨_, _, rfl⟩
          have HS0 := hide HLI.out.siz
          have z1 := HS0.out.code
          have z2 := HS0.out.uses
          have z3 := HS0.out.defs
          have z4 := HOKA.out.2
          have z5 := HOKA.out.1.1
          have z6 := HOKA.out.1.2
          simp only [] at z4 z5 z6
          have HSQ : Hid (Siz q2 (j + 1) k) := hide (by have := HS0.out.label nm (by omega); rw [hq] at this; exact this)
          have HPC : Hid (∀ (wy : World) (FP : List Nat), PB wy b bj FP → Calls Tryz.prog 23 #[.pointer (some ⟨b, 0, none⟩), .string ⟨nm.toArray⟩] wy (GoP (q1, q2) b FP wy)) := hide (by
            intro wy FP hp
            have := label_calls hp nm (by omega) (by omega) (by omega)
            rw [hq] at this
            unfold strV at this
            exact this)
          have HRC : Hid (∀ (wy : World) (FR : List Nat), RB wy x bj FR → Calls Tryz.prog 27 #[.pointer (some ⟨x, 0, none⟩), .string ⟨nm.toArray⟩] wy (GoR (q1, q2) x FR wy)) := hide (by
            intro wy FR hp
            have := rlabel_calls hp nm (by omega) (by omega) (by omega)
            rw [hq] at this
            unfold strV at this
            exact this)
          clear hq z1 z2 z3 z4 z5 z6 HS0
          go_upto_region 8 with (fail)
          change Code.wp _ _ _ _ ((wr.setCell ⟨w.heap.size + 2, 0, none⟩ (.int .i64 ((j + 1 : Nat) : Int))).alloc (.cells (actCells ⟨1, ⟨op, d, ai, bi, ni⟩, nm, ac, al, an⟩).toArray 27))
          generalize ((wr.setCell ⟨w.heap.size + 2, 0, none⟩ (.int .i64 ((j + 1 : Nat) : Int))).alloc (.cells (actCells ⟨1, ⟨op, d, ai, bi, ni⟩, nm, ac, al, an⟩).toArray 27)) = w5 at hmid ⊢
          have hka := hmid.hsz
          generalize wr.heap.size = ka at *
          have K4 : w5.cell? ⟨w.heap.size, 0, none⟩ = some (.pointer (some ⟨tb, 0, none⟩)) := hmid.b4.cell' (i := 0) rfl
          have N4 : w.heap.size ∉ F5 := fun hm => by have := hmid.hn _ hm; omega
          have NA : ka ∉ F5 := fun hm => by have := hmid.hn _ hm; omega
          have A0 : w5.cell? ⟨ka, 0, none⟩ = some (.int .i64 1) := hmid.ba.cell' (i := 0) rfl
          have A1 : w5.cell? ⟨ka, 1, none⟩ = some (.int .i64 op) := hmid.ba.cell' (i := 1) rfl
          have A2 : w5.cell? ⟨ka, 2, none⟩ = some (.int .i64 d) := hmid.ba.cell' (i := 2) rfl
          have A3 : w5.cell? ⟨ka, 3, none⟩ = some (.int .i64 ai) := hmid.ba.cell' (i := 3) rfl
          have A4 : w5.cell? ⟨ka, 4, none⟩ = some (.int .i64 bi) := hmid.ba.cell' (i := 4) rfl
          have A5 : w5.cell? ⟨ka, 5, none⟩ = some (.int .i64 ni) := hmid.ba.cell' (i := 5) rfl
          have A6 : w5.cell? ⟨ka, 6, none⟩ = some (.string ⟨nm.toArray⟩) := hmid.ba.cell' (i := 6) rfl
          have A7 : w5.cell? ⟨ka, 7, none⟩ = some (.int .i64 ac) := hmid.ba.cell' (i := 7) rfl
          have A8 : w5.cell? ⟨ka, 8, none⟩ = some (.int .i64 al) := hmid.ba.cell' (i := 8) rfl
          have A9 : w5.cell? ⟨ka, 9, none⟩ = some (.int .i32 an) := hmid.ba.cell' (i := 9) rfl
          clear c4 c5 c6 c7 f6 ct l6 d0 d1 d2 d3 d4 d5 d6 d7 d8 d9 HMID hka hlb
          refine wp_regionJ hmix.out _ _ (fun _ => vD8 w tb b x ka (1) op d ai bi ni nm ac al an q1) (fun (_ : Unit) L w' => WDL 7 14 w5 tb b x bj q2 F5 L w') () (by kernel_rfl) [] (by kernel_rfl) (fun p hp γ => by simp at hp) (by kernel_rfl) ?step ?start ?fin ?ext
          case start => exact (After.refl hmid.st).drew
          case ext => exact fun γ L L' w' h hw => hw.ext (h 7 (by decide)) (h 14 (by decide))
          case step =>
            intro i o ho L av w1 γ hdn htm hW hL hpre K Q hK
            match i, ho with
            | 0, ho =>
             injection ho with ho; subst ho
             have b4 : av.tmps.getD 4 undef = .pointer (some ⟨w.heap.size, 0, none⟩) := slB htm 4 (by kernel_rfl)
             clear htm
             have y := After.cell hW K4 N4
             refine val_now ?_ (hK () w1 (fun _ _ => rfl) (hW.keep (by decide) (by decide))); go_simp; rfl
            | 1, ho =>
             injection ho with ho; subst ho
             have b4 : av.tmps.getD 4 undef = .pointer (some ⟨w.heap.size, 0, none⟩) := slB htm 4 (by kernel_rfl)
             clear htm
             have y := After.cell hW K4 N4
             refine val_now ?_ (hK () w1 (fun _ _ => rfl) (hW.keep (by decide) (by decide))); go_simp; rfl
            | 2, ho =>
             injection ho with ho; subst ho
             have s1 := slA htm 54 1 (by kernel_rfl) (hpre ⟨1, .data⟩ (by simp) rfl)
             simp only [vD8] at s1
             clear htm
             refine val_now ?_ (hK () w1 (fun _ _ => rfl) (hW.keep (by decide) (by decide))); go_simp; rfl
            | 3, ho =>
             injection ho with ho; subst ho
             have s2 := slA htm 55 2 (by kernel_rfl) (hpre ⟨2, .data⟩ (by simp) rfl)
             simp only [vD8] at s2
             clear htm
             refine val_now ?_ (hK () w1 (fun _ _ => rfl) (hW.keep (by decide) (by decide))); go_simp; rfl
            | 4, ho =>
             injection ho with ho; subst ho
             have s3 := slA htm 56 3 (by kernel_rfl) (hpre ⟨3, .data⟩ (by simp) rfl)
             simp only [vD8] at s3
             clear htm
             have y := After.b0 hW
             refine val_now ?_ (hK () w1 (fun _ _ => rfl) (hW.keep (by decide) (by decide))); go_simp; rfl
            | 5, ho =>
             injection ho with ho; subst ho
             have b9 : av.tmps.getD 9 undef = .pointer (some ⟨ka, 0, none⟩) := slB htm 9 (by kernel_rfl)
             clear htm
             refine val_now ?_ (hK () w1 (fun _ _ => rfl) (hW.keep (by decide) (by decide))); go_simp; rfl
            | 6, ho =>
             injection ho with ho; subst ho
             have s5 := slA htm 58 5 (by kernel_rfl) (hpre ⟨5, .data⟩ (by simp) rfl)
             simp only [vD8] at s5
             clear htm
             have y := After.cell hW A6 NA
             refine val_now ?_ (hK () w1 (fun _ _ => rfl) (hW.keep (by decide) (by decide))); go_simp; rfl
            | 7, ho =>
             injection ho with ho; subst ho
             have s4 := slA htm 57 4 (by kernel_rfl) (hpre ⟨4, .data⟩ (by simp) rfl)
             have s6 := slA htm 59 6 (by kernel_rfl) (hpre ⟨6, .data⟩ (by simp) rfl)
             simp only [vD8] at s4 s6
             clear htm
             obtain ⟨FP, hPB, hgo⟩ := WDL.prog (q := (q1, q2)) hW hL (by decide)
             refine call_now (f := 23) (args := #[.pointer (some ⟨b, 0, none⟩), .string ⟨nm.toArray⟩]) ?_ (HPC.out _ _ hPB) ?_
             · go_simp
             · intro e w2 hg
               obtain ⟨rfl, hn⟩ := hgo e w2 hg
               exact ⟨_, rfl, hK () w2 (fun _ _ => rfl) hn⟩
            | 8, ho =>
             injection ho with ho; subst ho
             have b4 : av.tmps.getD 4 undef = .pointer (some ⟨w.heap.size, 0, none⟩) := slB htm 4 (by kernel_rfl)
             clear htm
             have y := After.cell hW K4 N4
             refine val_now ?_ (hK () w1 (fun _ _ => rfl) (hW.keep (by decide) (by decide))); go_simp; rfl
            | 9, ho =>
             injection ho with ho; subst ho
             have s8 := slA htm 61 8 (by kernel_rfl) (hpre ⟨8, .data⟩ (by simp) rfl)
             simp only [vD8] at s8
             clear htm
             refine val_now ?_ (hK () w1 (fun _ _ => rfl) (hW.keep (by decide) (by decide))); go_simp; rfl
            | 10, ho =>
             injection ho with ho; subst ho
             have s9 := slA htm 62 9 (by kernel_rfl) (hpre ⟨9, .data⟩ (by simp) rfl)
             simp only [vD8] at s9
             clear htm
             refine val_now ?_ (hK () w1 (fun _ _ => rfl) (hW.keep (by decide) (by decide))); go_simp; rfl
            | 11, ho =>
             injection ho with ho; subst ho
             have s10 := slA htm 63 10 (by kernel_rfl) (hpre ⟨10, .data⟩ (by simp) rfl)
             simp only [vD8] at s10
             clear htm
             have y := After.b1 hW
             refine val_now ?_ (hK () w1 (fun _ _ => rfl) (hW.keep (by decide) (by decide))); go_simp; rfl
            | 12, ho =>
             injection ho with ho; subst ho
             have b9 : av.tmps.getD 9 undef = .pointer (some ⟨ka, 0, none⟩) := slB htm 9 (by kernel_rfl)
             clear htm
             refine val_now ?_ (hK () w1 (fun _ _ => rfl) (hW.keep (by decide) (by decide))); go_simp; rfl
            | 13, ho =>
             injection ho with ho; subst ho
             have s12 := slA htm 65 12 (by kernel_rfl) (hpre ⟨12, .data⟩ (by simp) rfl)
             simp only [vD8] at s12
             clear htm
             have y := After.cell hW A6 NA
             refine val_now ?_ (hK () w1 (fun _ _ => rfl) (hW.keep (by decide) (by decide))); go_simp; rfl
            | 14, ho =>
             injection ho with ho; subst ho
             have s11 := slA htm 64 11 (by kernel_rfl) (hpre ⟨11, .data⟩ (by simp) rfl)
             have s13 := slA htm 66 13 (by kernel_rfl) (hpre ⟨13, .data⟩ (by simp) rfl)
             simp only [vD8] at s11 s13
             clear htm
             obtain ⟨FP, hPB, hgo⟩ := WDL.ref (q := (q1, q2)) hW hL (by decide)
             refine call_now (f := 27) (args := #[.pointer (some ⟨x, 0, none⟩), .string ⟨nm.toArray⟩]) ?_ (HRC.out _ _ hPB) ?_
             · go_simp
             · intro e w2 hg
               obtain ⟨rfl, hn⟩ := hgo e w2 hg
               exact ⟨_, rfl, hK () w2 (fun _ _ => rfl) hn⟩
            | 15, ho =>
             injection ho with ho; subst ho
             have s7 := slA htm 60 7 (by kernel_rfl) (hpre ⟨7, .data⟩ (by simp) rfl)
             have s14 := slA htm 67 14 (by kernel_rfl) (hpre ⟨14, .data⟩ (by simp) rfl)
             simp only [vD8] at s7 s14
             clear htm
             refine val_now ?_ (hK () w1 (fun _ _ => rfl) (hW.keep (by decide) (by decide))); go_simp; rfl
            | 16, ho =>
             injection ho with ho; subst ho
             have s0 := slA htm 53 0 (by kernel_rfl) (hpre ⟨0, .data⟩ (by simp) rfl)
             simp only [vD8] at s0
             clear htm
             refine val_now ?_ (hK () w1 (fun _ _ => rfl) (hW.keep (by decide) (by decide))); go_simp; rfl
            | 17, ho =>
             injection ho with ho; subst ho
             have s16 := slA htm 69 16 (by kernel_rfl) (hpre ⟨16, .data⟩ (by simp) rfl)
             simp only [vD8] at s16
             clear htm
             refine val_now ?_ (hK () w1 (fun _ _ => rfl) (hW.keep (by decide) (by decide))); go_simp; rfl
            | 18, ho =>
             injection ho with ho; subst ho
             have s17 := slA htm 70 17 (by kernel_rfl) (hpre ⟨17, .data⟩ (by simp) rfl)
             have s15 := slA htm 68 15 (by kernel_rfl) (hpre ⟨15, .data⟩ (by simp) rfl)
             simp only [vD8] at s17 s15
             clear htm
             have y := After.b2 hW
             have yf := After.fz hW 2
             first | (refine skip_now ?_ (hK () _ (fun _ _ => rfl) (hW.fine (by decide) (by decide))); go_simp; done) | (refine skip_now ?_ (hK () _ (fun _ _ => rfl) (hW.fine (by decide) (by decide))); go_simp; rfl) | (refine val_now ?_ (hK () _ (fun _ _ => rfl) (hW.fine (by decide) (by decide))); fail)
            | _ + 19, ho => cases ho
          case fin =>
            intro γ w8 hW
            have hA : After w5 w8 tb b x q2 q2 F5 := hW
            have HL2 := hide (hmid.next hA HSQ.out)
            have hat1 := HLI.out.b6
            rw [finG_puts, putsR_list, putsL_dst]
            simp only [List.map_cons, List.map_nil]
            rw [puts8]
            simp only [vD8]
            clear hW hA K4 N4 NA A0 A1 A2 A3 A4 A5 A6 A7 A8 A9 hmid
            go_wp2
            rw [atOf_eq hat1, atOf_eq HL2.out.b6]
            exact ⟨⟨j + 1, q2, by omega, HL2⟩, by omega⟩
        have nk1 : (kind == 1) = false := beq_eq_false_iff_ne.2 hkd
        clear hkd
        by_cases hkd : kind = 2
        · subst hkd
          obtain ⟨F5, hmid⟩ := HMID.out
          obtain ⟨q1, q2, hq⟩ : ∃ q1 q2, goM bj op d ai nm = (q1, q2) := ⟨_, _, rfl⟩
          have HS0 := hide HLI.out.siz
          have z1 := HS0.out.code
          have z2 := HS0.out.uses
          have z3 := HS0.out.defs
          have z4 := HOKA.out.2
          have z5 := HOKA.out.1.1
          have z6 := HOKA.out.1.2
          simp only [] at z4 z5 z6
          have HSQ : Hid (Siz q2 (j + 1) k) := hide (by have := HS0.out.go op d ai nm (by omega) (by omega); rw [hq] at this; exact this)
          have HPC : Hid (∀ (wy : World) (FP : List Nat), PB wy b bj FP → Calls Tryz.prog 24 #[.pointer (some ⟨b, 0, none⟩), .int .i64 op, .int .i64 d, .int .i64 ai, .string ⟨nm.toArray⟩] wy (GoP (q1, q2) b FP wy)) := hide (by
            intro wy FP hp
            have := go_calls hp op d ai nm (by omega) (by omega) (by omega)
            rw [hq] at this
            unfold strV at this
            exact this)
          have HRC : Hid (∀ (wy : World) (FR : List Nat), RB wy x bj FR → Calls Tryz.prog 28 #[.pointer (some ⟨x, 0, none⟩), .int .i64 op, .int .i64 d, .int .i64 ai, .string ⟨nm.toArray⟩] wy (GoR (q1, q2) x FR wy)) := hide (by
            intro wy FR hp
            have := rgo_calls hp op d ai nm (by omega) (by omega) (by omega)
            rw [hq] at this
            unfold strV at this
            exact this)
          clear hq z1 z2 z3 z4 z5 z6 HS0
          go_upto_region 10 with (fail)
          change Code.wp _ _ _ _ ((wr.setCell ⟨w.heap.size + 2, 0, none⟩ (.int .i64 ((j + 1 : Nat) : Int))).alloc (.cells (actCells ⟨2, ⟨op, d, ai, bi, ni⟩, nm, ac, al, an⟩).toArray 27))
          generalize ((wr.setCell ⟨w.heap.size + 2, 0, none⟩ (.int .i64 ((j + 1 : Nat) : Int))).alloc (.cells (actCells ⟨2, ⟨op, d, ai, bi, ni⟩, nm, ac, al, an⟩).toArray 27)) = w5 at hmid ⊢
          have hka := hmid.hsz
          generalize wr.heap.size = ka at *
          have K4 : w5.cell? ⟨w.heap.size, 0, none⟩ = some (.pointer (some ⟨tb, 0, none⟩)) := hmid.b4.cell' (i := 0) rfl
          have N4 : w.heap.size ∉ F5 := fun hm => by have := hmid.hn _ hm; omega
          have NA : ka ∉ F5 := fun hm => by have := hmid.hn _ hm; omega
          have A0 : w5.cell? ⟨ka, 0, none⟩ = some (.int .i64 2) := hmid.ba.cell' (i := 0) rfl
          have A1 : w5.cell? ⟨ka, 1, none⟩ = some (.int .i64 op) := hmid.ba.cell' (i := 1) rfl
          have A2 : w5.cell? ⟨ka, 2, none⟩ = some (.int .i64 d) := hmid.ba.cell' (i := 2) rfl
          have A3 : w5.cell? ⟨ka, 3, none⟩ = some (.int .i64 ai) := hmid.ba.cell' (i := 3) rfl
          have A4 : w5.cell? ⟨ka, 4, none⟩ = some (.int .i64 bi) := hmid.ba.cell' (i := 4) rfl
          have A5 : w5.cell? ⟨ka, 5, none⟩ = some (.int .i64 ni) := hmid.ba.cell' (i := 5) rfl
          have A6 : w5.cell? ⟨ka, 6, none⟩ = some (.string ⟨nm.toArray⟩) := hmid.ba.cell' (i := 6) rfl
          have A7 : w5.cell? ⟨ka, 7, none⟩ = some (.int .i64 ac) := hmid.ba.cell' (i := 7) rfl
          have A8 : w5.cell? ⟨ka, 8, none⟩ = some (.int .i64 al) := hmid.ba.cell' (i := 8) rfl
          have A9 : w5.cell? ⟨ka, 9, none⟩ = some (.int .i32 an) := hmid.ba.cell' (i := 9) rfl
          clear c4 c5 c6 c7 f6 ct l6 d0 d1 d2 d3 d4 d5 d6 d7 d8 d9 HMID hka hlb
          refine wp_regionJ hmix.out _ _ (fun _ => vD10 w tb b x ka (2) op d ai bi ni nm ac al an q1) (fun (_ : Unit) L w' => WDL 16 32 w5 tb b x bj q2 F5 L w') () (by kernel_rfl) [] (by kernel_rfl) (fun p hp γ => by simp at hp) (by kernel_rfl) ?step ?start ?fin ?ext
          case start => exact (After.refl hmid.st).drew
          case ext => exact fun γ L L' w' h hw => hw.ext (h 16 (by decide)) (h 32 (by decide))
          case step =>
            intro i o ho L av w1 γ hdn htm hW hL hpre K Q hK
            match i, ho with
            | 0, ho =>
             injection ho with ho; subst ho
             have b4 : av.tmps.getD 4 undef = .pointer (some ⟨w.heap.size, 0, none⟩) := slB htm 4 (by kernel_rfl)
             clear htm
             have y := After.cell hW K4 N4
             refine val_now ?_ (hK () w1 (fun _ _ => rfl) (hW.keep (by decide) (by decide))); go_simp; rfl
            | 1, ho =>
             injection ho with ho; subst ho
             have b4 : av.tmps.getD 4 undef = .pointer (some ⟨w.heap.size, 0, none⟩) := slB htm 4 (by kernel_rfl)
             clear htm
             have y := After.cell hW K4 N4
             refine val_now ?_ (hK () w1 (fun _ _ => rfl) (hW.keep (by decide) (by decide))); go_simp; rfl
            | 2, ho =>
             injection ho with ho; subst ho
             have s1 := slA htm 74 1 (by kernel_rfl) (hpre ⟨1, .data⟩ (by simp) rfl)
             simp only [vD10] at s1
             clear htm
             refine val_now ?_ (hK () w1 (fun _ _ => rfl) (hW.keep (by decide) (by decide))); go_simp; rfl
            | 3, ho =>
             injection ho with ho; subst ho
             have s2 := slA htm 75 2 (by kernel_rfl) (hpre ⟨2, .data⟩ (by simp) rfl)
             simp only [vD10] at s2
             clear htm
             refine val_now ?_ (hK () w1 (fun _ _ => rfl) (hW.keep (by decide) (by decide))); go_simp; rfl
            | 4, ho =>
             injection ho with ho; subst ho
             have s3 := slA htm 76 3 (by kernel_rfl) (hpre ⟨3, .data⟩ (by simp) rfl)
             simp only [vD10] at s3
             clear htm
             have y := After.b0 hW
             refine val_now ?_ (hK () w1 (fun _ _ => rfl) (hW.keep (by decide) (by decide))); go_simp; rfl
            | 5, ho =>
             injection ho with ho; subst ho
             have b9 : av.tmps.getD 9 undef = .pointer (some ⟨ka, 0, none⟩) := slB htm 9 (by kernel_rfl)
             clear htm
             refine val_now ?_ (hK () w1 (fun _ _ => rfl) (hW.keep (by decide) (by decide))); go_simp; rfl
            | 6, ho =>
             injection ho with ho; subst ho
             have s5 := slA htm 78 5 (by kernel_rfl) (hpre ⟨5, .data⟩ (by simp) rfl)
             simp only [vD10] at s5
             clear htm
             refine val_now ?_ (hK () w1 (fun _ _ => rfl) (hW.keep (by decide) (by decide))); go_simp; rfl
            | 7, ho =>
             injection ho with ho; subst ho
             have s6 := slA htm 79 6 (by kernel_rfl) (hpre ⟨6, .data⟩ (by simp) rfl)
             simp only [vD10] at s6
             clear htm
             have y := After.cell hW A1 NA
             refine val_now ?_ (hK () w1 (fun _ _ => rfl) (hW.keep (by decide) (by decide))); go_simp; rfl
            | 8, ho =>
             injection ho with ho; subst ho
             have b9 : av.tmps.getD 9 undef = .pointer (some ⟨ka, 0, none⟩) := slB htm 9 (by kernel_rfl)
             clear htm
             refine val_now ?_ (hK () w1 (fun _ _ => rfl) (hW.keep (by decide) (by decide))); go_simp; rfl
            | 9, ho =>
             injection ho with ho; subst ho
             have s8 := slA htm 81 8 (by kernel_rfl) (hpre ⟨8, .data⟩ (by simp) rfl)
             simp only [vD10] at s8
             clear htm
             refine val_now ?_ (hK () w1 (fun _ _ => rfl) (hW.keep (by decide) (by decide))); go_simp; rfl
            | 10, ho =>
             injection ho with ho; subst ho
             have s9 := slA htm 82 9 (by kernel_rfl) (hpre ⟨9, .data⟩ (by simp) rfl)
             simp only [vD10] at s9
             clear htm
             have y := After.cell hW A2 NA
             refine val_now ?_ (hK () w1 (fun _ _ => rfl) (hW.keep (by decide) (by decide))); go_simp; rfl
            | 11, ho =>
             injection ho with ho; subst ho
             have b9 : av.tmps.getD 9 undef = .pointer (some ⟨ka, 0, none⟩) := slB htm 9 (by kernel_rfl)
             clear htm
             refine val_now ?_ (hK () w1 (fun _ _ => rfl) (hW.keep (by decide) (by decide))); go_simp; rfl
            | 12, ho =>
             injection ho with ho; subst ho
             have s11 := slA htm 84 11 (by kernel_rfl) (hpre ⟨11, .data⟩ (by simp) rfl)
             simp only [vD10] at s11
             clear htm
             refine val_now ?_ (hK () w1 (fun _ _ => rfl) (hW.keep (by decide) (by decide))); go_simp; rfl
            | 13, ho =>
             injection ho with ho; subst ho
             have s12 := slA htm 85 12 (by kernel_rfl) (hpre ⟨12, .data⟩ (by simp) rfl)
             simp only [vD10] at s12
             clear htm
             have y := After.cell hW A3 NA
             refine val_now ?_ (hK () w1 (fun _ _ => rfl) (hW.keep (by decide) (by decide))); go_simp; rfl
            | 14, ho =>
             injection ho with ho; subst ho
             have b9 : av.tmps.getD 9 undef = .pointer (some ⟨ka, 0, none⟩) := slB htm 9 (by kernel_rfl)
             clear htm
             refine val_now ?_ (hK () w1 (fun _ _ => rfl) (hW.keep (by decide) (by decide))); go_simp; rfl
            | 15, ho =>
             injection ho with ho; subst ho
             have s14 := slA htm 87 14 (by kernel_rfl) (hpre ⟨14, .data⟩ (by simp) rfl)
             simp only [vD10] at s14
             clear htm
             have y := After.cell hW A6 NA
             refine val_now ?_ (hK () w1 (fun _ _ => rfl) (hW.keep (by decide) (by decide))); go_simp; rfl
            | 16, ho =>
             injection ho with ho; subst ho
             have s4 := slA htm 77 4 (by kernel_rfl) (hpre ⟨4, .data⟩ (by simp) rfl)
             have s7 := slA htm 80 7 (by kernel_rfl) (hpre ⟨7, .data⟩ (by simp) rfl)
             have s10 := slA htm 83 10 (by kernel_rfl) (hpre ⟨10, .data⟩ (by simp) rfl)
             have s13 := slA htm 86 13 (by kernel_rfl) (hpre ⟨13, .data⟩ (by simp) rfl)
             have s15 := slA htm 88 15 (by kernel_rfl) (hpre ⟨15, .data⟩ (by simp) rfl)
             simp only [vD10] at s4 s7 s10 s13 s15
             clear htm
             obtain ⟨FP, hPB, hgo⟩ := WDL.prog (q := (q1, q2)) hW hL (by decide)
             refine call_now (f := 24) (args := #[.pointer (some ⟨b, 0, none⟩), .int .i64 op, .int .i64 d, .int .i64 ai, .string ⟨nm.toArray⟩]) ?_ (HPC.out _ _ hPB) ?_
             · go_simp
             · intro e w2 hg
               obtain ⟨rfl, hn⟩ := hgo e w2 hg
               exact ⟨_, rfl, hK () w2 (fun _ _ => rfl) hn⟩
            | 17, ho =>
             injection ho with ho; subst ho
             have b4 : av.tmps.getD 4 undef = .pointer (some ⟨w.heap.size, 0, none⟩) := slB htm 4 (by kernel_rfl)
             clear htm
             have y := After.cell hW K4 N4
             refine val_now ?_ (hK () w1 (fun _ _ => rfl) (hW.keep (by decide) (by decide))); go_simp; rfl
            | 18, ho =>
             injection ho with ho; subst ho
             have s17 := slA htm 90 17 (by kernel_rfl) (hpre ⟨17, .data⟩ (by simp) rfl)
             simp only [vD10] at s17
             clear htm
             refine val_now ?_ (hK () w1 (fun _ _ => rfl) (hW.keep (by decide) (by decide))); go_simp; rfl
            | 19, ho =>
             injection ho with ho; subst ho
             have s18 := slA htm 91 18 (by kernel_rfl) (hpre ⟨18, .data⟩ (by simp) rfl)
             simp only [vD10] at s18
             clear htm
             refine val_now ?_ (hK () w1 (fun _ _ => rfl) (hW.keep (by decide) (by decide))); go_simp; rfl
            | 20, ho =>
             injection ho with ho; subst ho
             have s19 := slA htm 92 19 (by kernel_rfl) (hpre ⟨19, .data⟩ (by simp) rfl)
             simp only [vD10] at s19
             clear htm
             have y := After.b1 hW
             refine val_now ?_ (hK () w1 (fun _ _ => rfl) (hW.keep (by decide) (by decide))); go_simp; rfl
            | 21, ho =>
             injection ho with ho; subst ho
             have b9 : av.tmps.getD 9 undef = .pointer (some ⟨ka, 0, none⟩) := slB htm 9 (by kernel_rfl)
             clear htm
             refine val_now ?_ (hK () w1 (fun _ _ => rfl) (hW.keep (by decide) (by decide))); go_simp; rfl
            | 22, ho =>
             injection ho with ho; subst ho
             have s21 := slA htm 94 21 (by kernel_rfl) (hpre ⟨21, .data⟩ (by simp) rfl)
             simp only [vD10] at s21
             clear htm
             refine val_now ?_ (hK () w1 (fun _ _ => rfl) (hW.keep (by decide) (by decide))); go_simp; rfl
            | 23, ho =>
             injection ho with ho; subst ho
             have s22 := slA htm 95 22 (by kernel_rfl) (hpre ⟨22, .data⟩ (by simp) rfl)
             simp only [vD10] at s22
             clear htm
             have y := After.cell hW A1 NA
             refine val_now ?_ (hK () w1 (fun _ _ => rfl) (hW.keep (by decide) (by decide))); go_simp; rfl
            | 24, ho =>
             injection ho with ho; subst ho
             have b9 : av.tmps.getD 9 undef = .pointer (some ⟨ka, 0, none⟩) := slB htm 9 (by kernel_rfl)
             clear htm
             refine val_now ?_ (hK () w1 (fun _ _ => rfl) (hW.keep (by decide) (by decide))); go_simp; rfl
            | 25, ho =>
             injection ho with ho; subst ho
             have s24 := slA htm 97 24 (by kernel_rfl) (hpre ⟨24, .data⟩ (by simp) rfl)
             simp only [vD10] at s24
             clear htm
             refine val_now ?_ (hK () w1 (fun _ _ => rfl) (hW.keep (by decide) (by decide))); go_simp; rfl
            | 26, ho =>
             injection ho with ho; subst ho
             have s25 := slA htm 98 25 (by kernel_rfl) (hpre ⟨25, .data⟩ (by simp) rfl)
             simp only [vD10] at s25
             clear htm
             have y := After.cell hW A2 NA
             refine val_now ?_ (hK () w1 (fun _ _ => rfl) (hW.keep (by decide) (by decide))); go_simp; rfl
            | 27, ho =>
             injection ho with ho; subst ho
             have b9 : av.tmps.getD 9 undef = .pointer (some ⟨ka, 0, none⟩) := slB htm 9 (by kernel_rfl)
             clear htm
             refine val_now ?_ (hK () w1 (fun _ _ => rfl) (hW.keep (by decide) (by decide))); go_simp; rfl
            | 28, ho =>
             injection ho with ho; subst ho
             have s27 := slA htm 100 27 (by kernel_rfl) (hpre ⟨27, .data⟩ (by simp) rfl)
             simp only [vD10] at s27
             clear htm
             refine val_now ?_ (hK () w1 (fun _ _ => rfl) (hW.keep (by decide) (by decide))); go_simp; rfl
            | 29, ho =>
             injection ho with ho; subst ho
             have s28 := slA htm 101 28 (by kernel_rfl) (hpre ⟨28, .data⟩ (by simp) rfl)
             simp only [vD10] at s28
             clear htm
             have y := After.cell hW A3 NA
             refine val_now ?_ (hK () w1 (fun _ _ => rfl) (hW.keep (by decide) (by decide))); go_simp; rfl
            | 30, ho =>
             injection ho with ho; subst ho
             have b9 : av.tmps.getD 9 undef = .pointer (some ⟨ka, 0, none⟩) := slB htm 9 (by kernel_rfl)
             clear htm
             refine val_now ?_ (hK () w1 (fun _ _ => rfl) (hW.keep (by decide) (by decide))); go_simp; rfl
            | 31, ho =>
             injection ho with ho; subst ho
             have s30 := slA htm 103 30 (by kernel_rfl) (hpre ⟨30, .data⟩ (by simp) rfl)
             simp only [vD10] at s30
             clear htm
             have y := After.cell hW A6 NA
             refine val_now ?_ (hK () w1 (fun _ _ => rfl) (hW.keep (by decide) (by decide))); go_simp; rfl
            | 32, ho =>
             injection ho with ho; subst ho
             have s20 := slA htm 93 20 (by kernel_rfl) (hpre ⟨20, .data⟩ (by simp) rfl)
             have s23 := slA htm 96 23 (by kernel_rfl) (hpre ⟨23, .data⟩ (by simp) rfl)
             have s26 := slA htm 99 26 (by kernel_rfl) (hpre ⟨26, .data⟩ (by simp) rfl)
             have s29 := slA htm 102 29 (by kernel_rfl) (hpre ⟨29, .data⟩ (by simp) rfl)
             have s31 := slA htm 104 31 (by kernel_rfl) (hpre ⟨31, .data⟩ (by simp) rfl)
             simp only [vD10] at s20 s23 s26 s29 s31
             clear htm
             obtain ⟨FP, hPB, hgo⟩ := WDL.ref (q := (q1, q2)) hW hL (by decide)
             refine call_now (f := 28) (args := #[.pointer (some ⟨x, 0, none⟩), .int .i64 op, .int .i64 d, .int .i64 ai, .string ⟨nm.toArray⟩]) ?_ (HRC.out _ _ hPB) ?_
             · go_simp
             · intro e w2 hg
               obtain ⟨rfl, hn⟩ := hgo e w2 hg
               exact ⟨_, rfl, hK () w2 (fun _ _ => rfl) hn⟩
            | 33, ho =>
             injection ho with ho; subst ho
             have s16 := slA htm 89 16 (by kernel_rfl) (hpre ⟨16, .data⟩ (by simp) rfl)
             have s32 := slA htm 105 32 (by kernel_rfl) (hpre ⟨32, .data⟩ (by simp) rfl)
             simp only [vD10] at s16 s32
             clear htm
             refine val_now ?_ (hK () w1 (fun _ _ => rfl) (hW.keep (by decide) (by decide))); go_simp; rfl
            | 34, ho =>
             injection ho with ho; subst ho
             have s0 := slA htm 73 0 (by kernel_rfl) (hpre ⟨0, .data⟩ (by simp) rfl)
             simp only [vD10] at s0
             clear htm
             refine val_now ?_ (hK () w1 (fun _ _ => rfl) (hW.keep (by decide) (by decide))); go_simp; rfl
            | 35, ho =>
             injection ho with ho; subst ho
             have s34 := slA htm 107 34 (by kernel_rfl) (hpre ⟨34, .data⟩ (by simp) rfl)
             simp only [vD10] at s34
             clear htm
             refine val_now ?_ (hK () w1 (fun _ _ => rfl) (hW.keep (by decide) (by decide))); go_simp; rfl
            | 36, ho =>
             injection ho with ho; subst ho
             have s35 := slA htm 108 35 (by kernel_rfl) (hpre ⟨35, .data⟩ (by simp) rfl)
             have s33 := slA htm 106 33 (by kernel_rfl) (hpre ⟨33, .data⟩ (by simp) rfl)
             simp only [vD10] at s35 s33
             clear htm
             have y := After.b2 hW
             have yf := After.fz hW 2
             first | (refine skip_now ?_ (hK () _ (fun _ _ => rfl) (hW.fine (by decide) (by decide))); go_simp; done) | (refine skip_now ?_ (hK () _ (fun _ _ => rfl) (hW.fine (by decide) (by decide))); go_simp; rfl) | (refine val_now ?_ (hK () _ (fun _ _ => rfl) (hW.fine (by decide) (by decide))); fail)
            | _ + 37, ho => cases ho
          case fin =>
            intro γ w8 hW
            have hA : After w5 w8 tb b x q2 q2 F5 := hW
            have HL2 := hide (hmid.next hA HSQ.out)
            have hat1 := HLI.out.b6
            rw [finG_puts, putsR_list, putsL_dst]
            simp only [List.map_cons, List.map_nil]
            rw [puts10]
            simp only [vD10]
            clear hW hA K4 N4 NA A0 A1 A2 A3 A4 A5 A6 A7 A8 A9 hmid
            go_wp2
            rw [atOf_eq hat1, atOf_eq HL2.out.b6]
            exact ⟨⟨j + 1, q2, by omega, HL2⟩, by omega⟩
        have nk2 : (kind == 2) = false := beq_eq_false_iff_ne.2 hkd
        clear hkd
        by_cases hkd : kind = 3
        · subst hkd
          obtain ⟨F5, hmid⟩ := HMID.out
          obtain ⟨q1, q2, hq⟩ : ∃ q1 q2, setM bj ac an = (q1, q2) := ⟨_, _, rfl⟩
          have HS0 := hide HLI.out.siz
          have z1 := HS0.out.code
          have z2 := HS0.out.uses
          have z3 := HS0.out.defs
          have z4 := HOKA.out.2
          have z5 := HOKA.out.1.1
          have z6 := HOKA.out.1.2
          simp only [] at z4 z5 z6
          have HSQ : Hid (Siz q2 (j + 1) k) := hide (by have := HS0.out.set ac an; rw [hq] at this; exact this)
          have HPC : Hid (∀ (wy : World) (FP : List Nat), PB wy b bj FP → Calls Tryz.prog 12 #[.pointer (some ⟨b, 0, none⟩), .int .i64 ac, .int .i32 an] wy (GoP (q1, q2) b FP wy)) := hide (by
            intro wy FP hp
            have := set_calls hp ac an (by omega) (by omega) (by omega)
            rw [hq] at this
            skip
            exact this)
          have HRC : Hid (∀ (wy : World) (FR : List Nat), RB wy x bj FR → Calls Tryz.prog 29 #[.pointer (some ⟨x, 0, none⟩), .int .i64 ac, .int .i32 an] wy (GoR (q1, q2) x FR wy)) := hide (by
            intro wy FR hp
            have := rset_calls hp ac an (by omega) (by omega) (by omega)
            rw [hq] at this
            skip
            exact this)
          clear hq z1 z2 z3 z4 z5 z6 HS0
          go_upto_region 12 with (fail)
          change Code.wp _ _ _ _ ((wr.setCell ⟨w.heap.size + 2, 0, none⟩ (.int .i64 ((j + 1 : Nat) : Int))).alloc (.cells (actCells ⟨3, ⟨op, d, ai, bi, ni⟩, nm, ac, al, an⟩).toArray 27))
          generalize ((wr.setCell ⟨w.heap.size + 2, 0, none⟩ (.int .i64 ((j + 1 : Nat) : Int))).alloc (.cells (actCells ⟨3, ⟨op, d, ai, bi, ni⟩, nm, ac, al, an⟩).toArray 27)) = w5 at hmid ⊢
          have hka := hmid.hsz
          generalize wr.heap.size = ka at *
          have K4 : w5.cell? ⟨w.heap.size, 0, none⟩ = some (.pointer (some ⟨tb, 0, none⟩)) := hmid.b4.cell' (i := 0) rfl
          have N4 : w.heap.size ∉ F5 := fun hm => by have := hmid.hn _ hm; omega
          have NA : ka ∉ F5 := fun hm => by have := hmid.hn _ hm; omega
          have A0 : w5.cell? ⟨ka, 0, none⟩ = some (.int .i64 3) := hmid.ba.cell' (i := 0) rfl
          have A1 : w5.cell? ⟨ka, 1, none⟩ = some (.int .i64 op) := hmid.ba.cell' (i := 1) rfl
          have A2 : w5.cell? ⟨ka, 2, none⟩ = some (.int .i64 d) := hmid.ba.cell' (i := 2) rfl
          have A3 : w5.cell? ⟨ka, 3, none⟩ = some (.int .i64 ai) := hmid.ba.cell' (i := 3) rfl
          have A4 : w5.cell? ⟨ka, 4, none⟩ = some (.int .i64 bi) := hmid.ba.cell' (i := 4) rfl
          have A5 : w5.cell? ⟨ka, 5, none⟩ = some (.int .i64 ni) := hmid.ba.cell' (i := 5) rfl
          have A6 : w5.cell? ⟨ka, 6, none⟩ = some (.string ⟨nm.toArray⟩) := hmid.ba.cell' (i := 6) rfl
          have A7 : w5.cell? ⟨ka, 7, none⟩ = some (.int .i64 ac) := hmid.ba.cell' (i := 7) rfl
          have A8 : w5.cell? ⟨ka, 8, none⟩ = some (.int .i64 al) := hmid.ba.cell' (i := 8) rfl
          have A9 : w5.cell? ⟨ka, 9, none⟩ = some (.int .i32 an) := hmid.ba.cell' (i := 9) rfl
          clear c4 c5 c6 c7 f6 ct l6 d0 d1 d2 d3 d4 d5 d6 d7 d8 d9 HMID hka hlb
          refine wp_regionJ hmix.out _ _ (fun _ => vD12 w tb b x ka (3) op d ai bi ni nm ac al an q1) (fun (_ : Unit) L w' => WDL 9 18 w5 tb b x bj q2 F5 L w') () (by kernel_rfl) [] (by kernel_rfl) (fun p hp γ => by simp at hp) (by kernel_rfl) ?step ?start ?fin ?ext
          case start => exact (After.refl hmid.st).drew
          case ext => exact fun γ L L' w' h hw => hw.ext (h 9 (by decide)) (h 18 (by decide))
          case step =>
            intro i o ho L av w1 γ hdn htm hW hL hpre K Q hK
            match i, ho with
            | 0, ho =>
             injection ho with ho; subst ho
             have b4 : av.tmps.getD 4 undef = .pointer (some ⟨w.heap.size, 0, none⟩) := slB htm 4 (by kernel_rfl)
             clear htm
             have y := After.cell hW K4 N4
             refine val_now ?_ (hK () w1 (fun _ _ => rfl) (hW.keep (by decide) (by decide))); go_simp; rfl
            | 1, ho =>
             injection ho with ho; subst ho
             have b4 : av.tmps.getD 4 undef = .pointer (some ⟨w.heap.size, 0, none⟩) := slB htm 4 (by kernel_rfl)
             clear htm
             have y := After.cell hW K4 N4
             refine val_now ?_ (hK () w1 (fun _ _ => rfl) (hW.keep (by decide) (by decide))); go_simp; rfl
            | 2, ho =>
             injection ho with ho; subst ho
             have s1 := slA htm 112 1 (by kernel_rfl) (hpre ⟨1, .data⟩ (by simp) rfl)
             simp only [vD12] at s1
             clear htm
             refine val_now ?_ (hK () w1 (fun _ _ => rfl) (hW.keep (by decide) (by decide))); go_simp; rfl
            | 3, ho =>
             injection ho with ho; subst ho
             have s2 := slA htm 113 2 (by kernel_rfl) (hpre ⟨2, .data⟩ (by simp) rfl)
             simp only [vD12] at s2
             clear htm
             refine val_now ?_ (hK () w1 (fun _ _ => rfl) (hW.keep (by decide) (by decide))); go_simp; rfl
            | 4, ho =>
             injection ho with ho; subst ho
             have s3 := slA htm 114 3 (by kernel_rfl) (hpre ⟨3, .data⟩ (by simp) rfl)
             simp only [vD12] at s3
             clear htm
             have y := After.b0 hW
             refine val_now ?_ (hK () w1 (fun _ _ => rfl) (hW.keep (by decide) (by decide))); go_simp; rfl
            | 5, ho =>
             injection ho with ho; subst ho
             have b9 : av.tmps.getD 9 undef = .pointer (some ⟨ka, 0, none⟩) := slB htm 9 (by kernel_rfl)
             clear htm
             refine val_now ?_ (hK () w1 (fun _ _ => rfl) (hW.keep (by decide) (by decide))); go_simp; rfl
            | 6, ho =>
             injection ho with ho; subst ho
             have s5 := slA htm 116 5 (by kernel_rfl) (hpre ⟨5, .data⟩ (by simp) rfl)
             simp only [vD12] at s5
             clear htm
             have y := After.cell hW A7 NA
             refine val_now ?_ (hK () w1 (fun _ _ => rfl) (hW.keep (by decide) (by decide))); go_simp; rfl
            | 7, ho =>
             injection ho with ho; subst ho
             have b9 : av.tmps.getD 9 undef = .pointer (some ⟨ka, 0, none⟩) := slB htm 9 (by kernel_rfl)
             clear htm
             refine val_now ?_ (hK () w1 (fun _ _ => rfl) (hW.keep (by decide) (by decide))); go_simp; rfl
            | 8, ho =>
             injection ho with ho; subst ho
             have s7 := slA htm 118 7 (by kernel_rfl) (hpre ⟨7, .data⟩ (by simp) rfl)
             simp only [vD12] at s7
             clear htm
             have y := After.cell hW A9 NA
             refine val_now ?_ (hK () w1 (fun _ _ => rfl) (hW.keep (by decide) (by decide))); go_simp; rfl
            | 9, ho =>
             injection ho with ho; subst ho
             have s4 := slA htm 115 4 (by kernel_rfl) (hpre ⟨4, .data⟩ (by simp) rfl)
             have s6 := slA htm 117 6 (by kernel_rfl) (hpre ⟨6, .data⟩ (by simp) rfl)
             have s8 := slA htm 119 8 (by kernel_rfl) (hpre ⟨8, .data⟩ (by simp) rfl)
             simp only [vD12] at s4 s6 s8
             clear htm
             obtain ⟨FP, hPB, hgo⟩ := WDL.prog (q := (q1, q2)) hW hL (by decide)
             refine call_now (f := 12) (args := #[.pointer (some ⟨b, 0, none⟩), .int .i64 ac, .int .i32 an]) ?_ (HPC.out _ _ hPB) ?_
             · go_simp
             · intro e w2 hg
               obtain ⟨rfl, hn⟩ := hgo e w2 hg
               exact ⟨_, rfl, hK () w2 (fun _ _ => rfl) hn⟩
            | 10, ho =>
             injection ho with ho; subst ho
             have b4 : av.tmps.getD 4 undef = .pointer (some ⟨w.heap.size, 0, none⟩) := slB htm 4 (by kernel_rfl)
             clear htm
             have y := After.cell hW K4 N4
             refine val_now ?_ (hK () w1 (fun _ _ => rfl) (hW.keep (by decide) (by decide))); go_simp; rfl
            | 11, ho =>
             injection ho with ho; subst ho
             have s10 := slA htm 121 10 (by kernel_rfl) (hpre ⟨10, .data⟩ (by simp) rfl)
             simp only [vD12] at s10
             clear htm
             refine val_now ?_ (hK () w1 (fun _ _ => rfl) (hW.keep (by decide) (by decide))); go_simp; rfl
            | 12, ho =>
             injection ho with ho; subst ho
             have s11 := slA htm 122 11 (by kernel_rfl) (hpre ⟨11, .data⟩ (by simp) rfl)
             simp only [vD12] at s11
             clear htm
             refine val_now ?_ (hK () w1 (fun _ _ => rfl) (hW.keep (by decide) (by decide))); go_simp; rfl
            | 13, ho =>
             injection ho with ho; subst ho
             have s12 := slA htm 123 12 (by kernel_rfl) (hpre ⟨12, .data⟩ (by simp) rfl)
             simp only [vD12] at s12
             clear htm
             have y := After.b1 hW
             refine val_now ?_ (hK () w1 (fun _ _ => rfl) (hW.keep (by decide) (by decide))); go_simp; rfl
            | 14, ho =>
             injection ho with ho; subst ho
             have b9 : av.tmps.getD 9 undef = .pointer (some ⟨ka, 0, none⟩) := slB htm 9 (by kernel_rfl)
             clear htm
             refine val_now ?_ (hK () w1 (fun _ _ => rfl) (hW.keep (by decide) (by decide))); go_simp; rfl
            | 15, ho =>
             injection ho with ho; subst ho
             have s14 := slA htm 125 14 (by kernel_rfl) (hpre ⟨14, .data⟩ (by simp) rfl)
             simp only [vD12] at s14
             clear htm
             have y := After.cell hW A7 NA
             refine val_now ?_ (hK () w1 (fun _ _ => rfl) (hW.keep (by decide) (by decide))); go_simp; rfl
            | 16, ho =>
             injection ho with ho; subst ho
             have b9 : av.tmps.getD 9 undef = .pointer (some ⟨ka, 0, none⟩) := slB htm 9 (by kernel_rfl)
             clear htm
             refine val_now ?_ (hK () w1 (fun _ _ => rfl) (hW.keep (by decide) (by decide))); go_simp; rfl
            | 17, ho =>
             injection ho with ho; subst ho
             have s16 := slA htm 127 16 (by kernel_rfl) (hpre ⟨16, .data⟩ (by simp) rfl)
             simp only [vD12] at s16
             clear htm
             have y := After.cell hW A9 NA
             refine val_now ?_ (hK () w1 (fun _ _ => rfl) (hW.keep (by decide) (by decide))); go_simp; rfl
            | 18, ho =>
             injection ho with ho; subst ho
             have s13 := slA htm 124 13 (by kernel_rfl) (hpre ⟨13, .data⟩ (by simp) rfl)
             have s15 := slA htm 126 15 (by kernel_rfl) (hpre ⟨15, .data⟩ (by simp) rfl)
             have s17 := slA htm 128 17 (by kernel_rfl) (hpre ⟨17, .data⟩ (by simp) rfl)
             simp only [vD12] at s13 s15 s17
             clear htm
             obtain ⟨FP, hPB, hgo⟩ := WDL.ref (q := (q1, q2)) hW hL (by decide)
             refine call_now (f := 29) (args := #[.pointer (some ⟨x, 0, none⟩), .int .i64 ac, .int .i32 an]) ?_ (HRC.out _ _ hPB) ?_
             · go_simp
             · intro e w2 hg
               obtain ⟨rfl, hn⟩ := hgo e w2 hg
               exact ⟨_, rfl, hK () w2 (fun _ _ => rfl) hn⟩
            | 19, ho =>
             injection ho with ho; subst ho
             have s9 := slA htm 120 9 (by kernel_rfl) (hpre ⟨9, .data⟩ (by simp) rfl)
             have s18 := slA htm 129 18 (by kernel_rfl) (hpre ⟨18, .data⟩ (by simp) rfl)
             simp only [vD12] at s9 s18
             clear htm
             refine val_now ?_ (hK () w1 (fun _ _ => rfl) (hW.keep (by decide) (by decide))); go_simp; rfl
            | 20, ho =>
             injection ho with ho; subst ho
             have s0 := slA htm 111 0 (by kernel_rfl) (hpre ⟨0, .data⟩ (by simp) rfl)
             simp only [vD12] at s0
             clear htm
             refine val_now ?_ (hK () w1 (fun _ _ => rfl) (hW.keep (by decide) (by decide))); go_simp; rfl
            | 21, ho =>
             injection ho with ho; subst ho
             have s20 := slA htm 131 20 (by kernel_rfl) (hpre ⟨20, .data⟩ (by simp) rfl)
             simp only [vD12] at s20
             clear htm
             refine val_now ?_ (hK () w1 (fun _ _ => rfl) (hW.keep (by decide) (by decide))); go_simp; rfl
            | 22, ho =>
             injection ho with ho; subst ho
             have s21 := slA htm 132 21 (by kernel_rfl) (hpre ⟨21, .data⟩ (by simp) rfl)
             have s19 := slA htm 130 19 (by kernel_rfl) (hpre ⟨19, .data⟩ (by simp) rfl)
             simp only [vD12] at s21 s19
             clear htm
             have y := After.b2 hW
             have yf := After.fz hW 2
             first | (refine skip_now ?_ (hK () _ (fun _ _ => rfl) (hW.fine (by decide) (by decide))); go_simp; done) | (refine skip_now ?_ (hK () _ (fun _ _ => rfl) (hW.fine (by decide) (by decide))); go_simp; rfl) | (refine val_now ?_ (hK () _ (fun _ _ => rfl) (hW.fine (by decide) (by decide))); fail)
            | _ + 23, ho => cases ho
          case fin =>
            intro γ w8 hW
            have hA : After w5 w8 tb b x q2 q2 F5 := hW
            have HL2 := hide (hmid.next hA HSQ.out)
            have hat1 := HLI.out.b6
            rw [finG_puts, putsR_list, putsL_dst]
            simp only [List.map_cons, List.map_nil]
            rw [puts12]
            simp only [vD12]
            clear hW hA K4 N4 NA A0 A1 A2 A3 A4 A5 A6 A7 A8 A9 hmid
            go_wp2
            rw [atOf_eq hat1, atOf_eq HL2.out.b6]
            exact ⟨⟨j + 1, q2, by omega, HL2⟩, by omega⟩
        have nk3 : (kind == 3) = false := beq_eq_false_iff_ne.2 hkd
        clear hkd
        by_cases hkd : kind = 4
        · subst hkd
          obtain ⟨F5, hmid⟩ := HMID.out
          have HS0 := hide HLI.out.siz
          have z1 := HS0.out.code
          have z3 := HS0.out.defs
          have z4 := HOKA.out.2
          have z5 := HOKA.out.1.1
          have z6 := HOKA.out.1.2
          simp only [] at z4 z5 z6
          have HWN : Hid (IntKind.i64.wrap an = an) := hide (by simp only [IntKind.wrap, IntKind.bits, IntKind.signed]; simp; omega)
          by_cases hd5 : 5 < dep
          · have x5 : decide ((5 : Int) < (dep : Int)) = true := by simp; omega
            go_upto_region 14 with (fail)
            change Code.wp _ _ _ _ ((wr.setCell ⟨w.heap.size + 2, 0, none⟩ (.int .i64 ((j + 1 : Nat) : Int))).alloc (.cells (actCells ⟨4, ⟨op, d, ai, bi, ni⟩, nm, ac, al, an⟩).toArray 27))
            generalize ((wr.setCell ⟨w.heap.size + 2, 0, none⟩ (.int .i64 ((j + 1 : Nat) : Int))).alloc (.cells (actCells ⟨4, ⟨op, d, ai, bi, ni⟩, nm, ac, al, an⟩).toArray 27)) = w5 at hmid ⊢
            have hka := hmid.hsz
            generalize wr.heap.size = ka at *
            have K4 : w5.cell? ⟨w.heap.size, 0, none⟩ = some (.pointer (some ⟨tb, 0, none⟩)) := hmid.b4.cell' (i := 0) rfl
            have N4 : w.heap.size ∉ F5 := fun hm => by have := hmid.hn _ hm; omega
            have NA : ka ∉ F5 := fun hm => by have := hmid.hn _ hm; omega
            have A0 : w5.cell? ⟨ka, 0, none⟩ = some (.int .i64 4) := hmid.ba.cell' (i := 0) rfl
            have A1 : w5.cell? ⟨ka, 1, none⟩ = some (.int .i64 op) := hmid.ba.cell' (i := 1) rfl
            have A2 : w5.cell? ⟨ka, 2, none⟩ = some (.int .i64 d) := hmid.ba.cell' (i := 2) rfl
            have A3 : w5.cell? ⟨ka, 3, none⟩ = some (.int .i64 ai) := hmid.ba.cell' (i := 3) rfl
            have A4 : w5.cell? ⟨ka, 4, none⟩ = some (.int .i64 bi) := hmid.ba.cell' (i := 4) rfl
            have A5 : w5.cell? ⟨ka, 5, none⟩ = some (.int .i64 ni) := hmid.ba.cell' (i := 5) rfl
            have A6 : w5.cell? ⟨ka, 6, none⟩ = some (.string ⟨nm.toArray⟩) := hmid.ba.cell' (i := 6) rfl
            have A7 : w5.cell? ⟨ka, 7, none⟩ = some (.int .i64 ac) := hmid.ba.cell' (i := 7) rfl
            have A8 : w5.cell? ⟨ka, 8, none⟩ = some (.int .i64 al) := hmid.ba.cell' (i := 8) rfl
            have A9 : w5.cell? ⟨ka, 9, none⟩ = some (.int .i32 an) := hmid.ba.cell' (i := 9) rfl
            have C7 : w5.cell? ⟨w.heap.size + 3, 0, none⟩ = some (.int .i64 dep) := hmid.b7.cell' (i := 0) rfl
            have HL2 := hide (hmid.next (After.refl hmid.st) HS0.out.next)
            have hat1 := HLI.out.b6
            clear c4 c5 c6 c7 f6 ct l6 d0 d1 d2 d3 d4 d5 d6 d7 d8 d9 HMID hka hlb K4 N4 NA A0 A1 A2 A3 A4 A5 A6 A7 A8 A9 hmid z1 z3
            go_wp2
            rw [atOf_eq hat1, atOf_eq HL2.out.b6]
            exact ⟨⟨j + 1, bj, by omega, HL2⟩, by omega⟩
          · have x5 : decide ((5 : Int) < (dep : Int)) = false := by simp; omega
            obtain ⟨q1, q2, hq⟩ : ∃ q1 q2, openM bj ac al an nm = (q1, q2) := ⟨_, _, rfl⟩
            have HQ := hide hq
            have HRC : Hid (∀ (wy : World) (FR : List Nat), RB wy x bj FR → Calls Tryz.prog 30 #[.pointer (some ⟨x, 0, none⟩), .int .i64 ac, .int .i64 al, .int .i64 an, .string ⟨nm.toArray⟩] wy (GoR (q1, q2) x FR wy)) := hide (by
              intro wy FR hp
              have := ropen_calls hp ac al an nm (by omega) (by omega) (by omega)
              rw [hq] at this
              unfold strV at this
              exact this)
            clear hq z1 z3
            go_upto_region 14 with (fail)
            change Code.wp _ _ _ _ ((wr.setCell ⟨w.heap.size + 2, 0, none⟩ (.int .i64 ((j + 1 : Nat) : Int))).alloc (.cells (actCells ⟨4, ⟨op, d, ai, bi, ni⟩, nm, ac, al, an⟩).toArray 27))
            generalize ((wr.setCell ⟨w.heap.size + 2, 0, none⟩ (.int .i64 ((j + 1 : Nat) : Int))).alloc (.cells (actCells ⟨4, ⟨op, d, ai, bi, ni⟩, nm, ac, al, an⟩).toArray 27)) = w5 at hmid ⊢
            have hka := hmid.hsz
            generalize wr.heap.size = ka at *
            have K4 : w5.cell? ⟨w.heap.size, 0, none⟩ = some (.pointer (some ⟨tb, 0, none⟩)) := hmid.b4.cell' (i := 0) rfl
            have N4 : w.heap.size ∉ F5 := fun hm => by have := hmid.hn _ hm; omega
            have NA : ka ∉ F5 := fun hm => by have := hmid.hn _ hm; omega
            have A0 : w5.cell? ⟨ka, 0, none⟩ = some (.int .i64 4) := hmid.ba.cell' (i := 0) rfl
            have A1 : w5.cell? ⟨ka, 1, none⟩ = some (.int .i64 op) := hmid.ba.cell' (i := 1) rfl
            have A2 : w5.cell? ⟨ka, 2, none⟩ = some (.int .i64 d) := hmid.ba.cell' (i := 2) rfl
            have A3 : w5.cell? ⟨ka, 3, none⟩ = some (.int .i64 ai) := hmid.ba.cell' (i := 3) rfl
            have A4 : w5.cell? ⟨ka, 4, none⟩ = some (.int .i64 bi) := hmid.ba.cell' (i := 4) rfl
            have A5 : w5.cell? ⟨ka, 5, none⟩ = some (.int .i64 ni) := hmid.ba.cell' (i := 5) rfl
            have A6 : w5.cell? ⟨ka, 6, none⟩ = some (.string ⟨nm.toArray⟩) := hmid.ba.cell' (i := 6) rfl
            have A7 : w5.cell? ⟨ka, 7, none⟩ = some (.int .i64 ac) := hmid.ba.cell' (i := 7) rfl
            have A8 : w5.cell? ⟨ka, 8, none⟩ = some (.int .i64 al) := hmid.ba.cell' (i := 8) rfl
            have A9 : w5.cell? ⟨ka, 9, none⟩ = some (.int .i32 an) := hmid.ba.cell' (i := 9) rfl
            have C7 : w5.cell? ⟨w.heap.size + 3, 0, none⟩ = some (.int .i64 dep) := hmid.b7.cell' (i := 0) rfl
            go_upto_region 15 with (fail)
            clear C7
            clear c4 c5 c6 c7 f6 ct l6 d0 d1 d2 d3 d4 d5 d6 d7 d8 d9 HMID hka hlb
            refine wp_regionJ hmix.out _ _ (fun g0 => vD15 w tb b x ka (4) op d ai bi ni nm ac al an q1 g0) (fun (g0 : Nat) L w' => WO w5 tb b x bj q2 q1 F5 g0 L w') 0 (by kernel_rfl) [] (by kernel_rfl) (fun p hp γ => by simp at hp) (by kernel_rfl) ?step ?start ?fin ?ext
            case start => exact WO.start hmid.st
            case ext => exact fun γ L L' w' h hw => hw.ext (h 13 (by decide)) (h 14 (by decide)) (h 15 (by decide))
            case step =>
              intro i o ho L av w1 γ hdn htm hW hL hpre K Q hK
              match i, ho with
              | 0, ho =>
               injection ho with ho; subst ho
               have b4 : av.tmps.getD 4 undef = .pointer (some ⟨w.heap.size, 0, none⟩) := slB htm 4 (by kernel_rfl)
               clear htm
               have y := After.cell (WO.aft hW) K4 N4
               refine val_now ?_ (hK γ w1 (fun _ _ => rfl) (hW.keep (by decide) (by decide) (by decide))); go_simp; rfl
              | 1, ho =>
               injection ho with ho; subst ho
               have s0 := slA htm 137 0 (by kernel_rfl) (hpre ⟨0, .data⟩ (by simp) rfl)
               simp only [vD15] at s0
               clear htm
               refine val_now ?_ (hK γ w1 (fun _ _ => rfl) (hW.keep (by decide) (by decide) (by decide))); go_simp; rfl
              | 2, ho =>
               injection ho with ho; subst ho
               have s1 := slA htm 138 1 (by kernel_rfl) (hpre ⟨1, .data⟩ (by simp) rfl)
               simp only [vD15] at s1
               clear htm
               refine val_now ?_ (hK γ w1 (fun _ _ => rfl) (hW.keep (by decide) (by decide) (by decide))); go_simp; rfl
              | 3, ho =>
               injection ho with ho; subst ho
               have s2 := slA htm 139 2 (by kernel_rfl) (hpre ⟨2, .data⟩ (by simp) rfl)
               simp only [vD15] at s2
               clear htm
               have y := After.b1 (WO.aft hW)
               refine val_now ?_ (hK γ w1 (fun _ _ => rfl) (hW.keep (by decide) (by decide) (by decide))); go_simp; rfl
              | 4, ho =>
               injection ho with ho; subst ho
               have b9 : av.tmps.getD 9 undef = .pointer (some ⟨ka, 0, none⟩) := slB htm 9 (by kernel_rfl)
               clear htm
               refine val_now ?_ (hK γ w1 (fun _ _ => rfl) (hW.keep (by decide) (by decide) (by decide))); go_simp; rfl
              | 5, ho =>
               injection ho with ho; subst ho
               have s4 := slA htm 141 4 (by kernel_rfl) (hpre ⟨4, .data⟩ (by simp) rfl)
               simp only [vD15] at s4
               clear htm
               have y := After.cell (WO.aft hW) A7 NA
               refine val_now ?_ (hK γ w1 (fun _ _ => rfl) (hW.keep (by decide) (by decide) (by decide))); go_simp; rfl
              | 6, ho =>
               injection ho with ho; subst ho
               have b9 : av.tmps.getD 9 undef = .pointer (some ⟨ka, 0, none⟩) := slB htm 9 (by kernel_rfl)
               clear htm
               refine val_now ?_ (hK γ w1 (fun _ _ => rfl) (hW.keep (by decide) (by decide) (by decide))); go_simp; rfl
              | 7, ho =>
               injection ho with ho; subst ho
               have s6 := slA htm 143 6 (by kernel_rfl) (hpre ⟨6, .data⟩ (by simp) rfl)
               simp only [vD15] at s6
               clear htm
               have y := After.cell (WO.aft hW) A8 NA
               refine val_now ?_ (hK γ w1 (fun _ _ => rfl) (hW.keep (by decide) (by decide) (by decide))); go_simp; rfl
              | 8, ho =>
               injection ho with ho; subst ho
               have b9 : av.tmps.getD 9 undef = .pointer (some ⟨ka, 0, none⟩) := slB htm 9 (by kernel_rfl)
               clear htm
               refine val_now ?_ (hK γ w1 (fun _ _ => rfl) (hW.keep (by decide) (by decide) (by decide))); go_simp; rfl
              | 9, ho =>
               injection ho with ho; subst ho
               have s8 := slA htm 145 8 (by kernel_rfl) (hpre ⟨8, .data⟩ (by simp) rfl)
               simp only [vD15] at s8
               clear htm
               have y := After.cell (WO.aft hW) A9 NA
               refine val_now ?_ (hK γ w1 (fun _ _ => rfl) (hW.keep (by decide) (by decide) (by decide))); go_simp; rfl
              | 10, ho =>
               injection ho with ho; subst ho
               have s9 := slA htm 146 9 (by kernel_rfl) (hpre ⟨9, .data⟩ (by simp) rfl)
               simp only [vD15] at s9
               clear htm
               refine val_now ?_ (hK γ w1 (fun _ _ => rfl) (hW.keep (by decide) (by decide) (by decide)))
               go_simp
               exact congrArg (Value.int .i64) HWN.out
              | 11, ho =>
               injection ho with ho; subst ho
               have b9 : av.tmps.getD 9 undef = .pointer (some ⟨ka, 0, none⟩) := slB htm 9 (by kernel_rfl)
               clear htm
               refine val_now ?_ (hK γ w1 (fun _ _ => rfl) (hW.keep (by decide) (by decide) (by decide))); go_simp; rfl
              | 12, ho =>
               injection ho with ho; subst ho
               have s11 := slA htm 148 11 (by kernel_rfl) (hpre ⟨11, .data⟩ (by simp) rfl)
               simp only [vD15] at s11
               clear htm
               have y := After.cell (WO.aft hW) A6 NA
               refine val_now ?_ (hK γ w1 (fun _ _ => rfl) (hW.keep (by decide) (by decide) (by decide))); go_simp; rfl
              | 13, ho =>
               injection ho with ho; subst ho
               have s3 := slA htm 140 3 (by kernel_rfl) (hpre ⟨3, .data⟩ (by simp) rfl)
               have s5 := slA htm 142 5 (by kernel_rfl) (hpre ⟨5, .data⟩ (by simp) rfl)
               have s7 := slA htm 144 7 (by kernel_rfl) (hpre ⟨7, .data⟩ (by simp) rfl)
               have s10 := slA htm 147 10 (by kernel_rfl) (hpre ⟨10, .data⟩ (by simp) rfl)
               have s12 := slA htm 149 12 (by kernel_rfl) (hpre ⟨12, .data⟩ (by simp) rfl)
               simp only [vD15] at s3 s5 s7 s10 s12
               clear htm
               obtain ⟨FR, hRB, hgo⟩ := WO.ref hW hL
               refine call_now (f := 30) (args := #[.pointer (some ⟨x, 0, none⟩), .int .i64 ac, .int .i64 al, .int .i64 an, .string ⟨nm.toArray⟩]) ?_ (HRC.out _ _ hRB) ?_
               · go_simp
               · intro e w2 hg
                 obtain ⟨rfl, hn⟩ := hgo e w2 hg
                 exact ⟨_, rfl, hK γ w2 (fun _ _ => rfl) hn⟩
              | 14, ho =>
               injection ho with ho; subst ho
               clear htm
               have l15 : L 15 = false := by
                 cases h : L 15 with
                 | false => rfl
                 | true =>
                   have h14 : L 14 = true := hdn 15 _ rfl h ⟨14, .data⟩ (by simp) rfl
                   rw [hL] at h14; cases h14
               refine val_now ?_ (hK w1.heap.size _ (fun jj hjj => vD15_g _ _ _ _ _ _ _ _ _ _ _ _ _ _ _ _ _ _ jj (fun e => by rw [e, hL] at hjj; cases hjj)) (WO.new hW l15))
               go_simp
               try rfl
              | 15, ho =>
               injection ho with ho; subst ho
               have l14 := hpre ⟨14, .data⟩ (by simp) rfl
               have s14 := slA htm 10 14 (by kernel_rfl) l14
               have s13 := slA htm 150 13 (by kernel_rfl) (hpre ⟨13, .data⟩ (by simp) rfl)
               simp only [vD15] at s14 s13
               clear htm
               have l14 := hpre ⟨14, .data⟩ (by simp) rfl
               obtain ⟨yg, yf⟩ := WO.cellg hW l14
               rw [hL] at yg
               first | (refine skip_now ?_ (hK γ _ (fun _ _ => rfl) (WO.put hW l14)); go_simp; done) | (refine skip_now ?_ (hK γ _ (fun _ _ => rfl) (WO.put hW l14)); go_simp; rfl) | (refine skip_now ?_ (hK γ _ (fun _ _ => rfl) (WO.put hW l14)); fail)
              | _ + 16, ho => cases ho
            case fin =>
              intro ke w8 hW
              rw [finG_puts, putsR_list, putsL_dst]
              simp only [List.map_cons, List.map_nil]
              rw [puts15]
              simp only [vD15]
              have hA := WO.aft hW
              have hke : ke < w8.heap.size := by
                obtain ⟨F8, _, _, _, hg⟩ := hW
                exact (hg rfl).2.2.lt
              have hLC := loop_arm (HIH.out (by have := HLI.out.h1; omega)) hl hmid hW HQ.out (by have := HM.out; have := HLI.out.h1; omega) (by omega) HASL.out (HAF.out (by omega)) HFL.out (by omega)
              have hA9 := hA.alloc (.cells #[.int .i64 0] 3)
              have k4 := After.cell hA9 K4 N4
              have a6 := After.cell hA9 A6 NA
              have a7 := After.cell hA9 A7 NA
              have a8 := After.cell hA9 A8 NA
              have a9 := After.cell hA9 A9 NA
              have kb := After.b0 hA9
              unfold strV at hLC
              have HLC := hide hLC
              have hat1 := hide HLI.out.b6
              clear hW hA hA9 hke K4 N4 NA A0 A1 A2 A3 A4 A5 A6 A7 A8 A9 hmid hLC HQ HRC HS0 HLI
              go_upto_region 17 with (fail)
              generalize w8.alloc (.cells #[.int .i64 0] 3) = w9 at *
              have hwn := HWN.out
              go_still_tail 14, (by kernel_rfl)
              change wpList _ _ _ _ _ w9.drew
              clear k4 a6 a7 a8 a9 kb
              go_wp2_with fail
              go_at_call 13
              refine HLC.out.mono ?_
              rintro e w10 ⟨rfl, j2, cm, hL2, hjj, hke2, hkt2⟩
              clear HLC hwn
              have k4 := hL2.b4.cell' (i := 0) rfl
              have kf := hL2.b2
              have ke2 := hke2.cell' (i := 0) rfl
              have kz : w10.frozen? ⟨tb, 2, none⟩ = false := by
                obtain ⟨F', _, hst⟩ := hL2.st
                exact hst.blk.frozen 2
              have hlt3 := hL2.st.elim (fun F' h => h.2.blk.lt)
              have HL2 := hide hL2
              by_cases h0 : q1 = 0
              · subst h0
                have kt2 : w10.cell? ⟨w8.heap.size, 0, none⟩ = some (.int .i64 1) := by simpa using hkt2.cell' (i := 0) rfl
                clear hke2 hkt2 hL2
                go_wp2
                go_still_tail 19, (by kernel_rfl)
                change wpList _ _ _ _ _ w10.drew
                go_wp2
                have HL3 := hide (HL2.out.fine HTF.out (HFL.out _ HTF.out)).drew
                rw [atOf_eq hat1.out, atOf_eq HL3.out.b6]
                exact ⟨⟨j2, cm, HL3.out.h2, HL3⟩, by have := HL3.out.h2; omega⟩
              · have kt2 : w10.cell? ⟨w8.heap.size, 0, none⟩ = some (.int .i64 0) := by simpa [h0] using hkt2.cell' (i := 0) rfl
                have hx : (q1 == 0) = false := beq_eq_false_iff_ne.2 h0
                clear hke2 hkt2 hL2 h0
                go_wp2
                go_still_tail 19, (by kernel_rfl)
                change wpList _ _ _ _ _ w10.drew
                go_wp2
                have HL3 := hide (HL2.out.fine HTF.out (HFL.out _ HTF.out)).drew
                rw [atOf_eq hat1.out, atOf_eq HL3.out.b6]
                exact ⟨⟨j2, cm, HL3.out.h2, HL3⟩, by have := HL3.out.h2; omega⟩
        have nk4 : (kind == 4) = false := beq_eq_false_iff_ne.2 hkd
        clear hkd
        by_cases hkd : kind = 5
        · subst hkd
          obtain ⟨F5, hmid⟩ := HMID.out
          have HS0 := hide HLI.out.siz
          by_cases hd0 : 0 < dep
          · have x5 : decide ((0 : Int) < (dep : Int)) = true := by simp; omega
            go_upto_region 20 with (fail)
            change Code.wp _ _ _ _ ((wr.setCell ⟨w.heap.size + 2, 0, none⟩ (.int .i64 ((j + 1 : Nat) : Int))).alloc (.cells (actCells ⟨5, ⟨op, d, ai, bi, ni⟩, nm, ac, al, an⟩).toArray 27))
            generalize ((wr.setCell ⟨w.heap.size + 2, 0, none⟩ (.int .i64 ((j + 1 : Nat) : Int))).alloc (.cells (actCells ⟨5, ⟨op, d, ai, bi, ni⟩, nm, ac, al, an⟩).toArray 27)) = w5 at hmid ⊢
            have hka := hmid.hsz
            generalize wr.heap.size = ka at *
            have K4 : w5.cell? ⟨w.heap.size, 0, none⟩ = some (.pointer (some ⟨tb, 0, none⟩)) := hmid.b4.cell' (i := 0) rfl
            have N4 : w.heap.size ∉ F5 := fun hm => by have := hmid.hn _ hm; omega
            have NA : ka ∉ F5 := fun hm => by have := hmid.hn _ hm; omega
            have A0 : w5.cell? ⟨ka, 0, none⟩ = some (.int .i64 5) := hmid.ba.cell' (i := 0) rfl
            have A1 : w5.cell? ⟨ka, 1, none⟩ = some (.int .i64 op) := hmid.ba.cell' (i := 1) rfl
            have A2 : w5.cell? ⟨ka, 2, none⟩ = some (.int .i64 d) := hmid.ba.cell' (i := 2) rfl
            have A3 : w5.cell? ⟨ka, 3, none⟩ = some (.int .i64 ai) := hmid.ba.cell' (i := 3) rfl
            have A4 : w5.cell? ⟨ka, 4, none⟩ = some (.int .i64 bi) := hmid.ba.cell' (i := 4) rfl
            have A5 : w5.cell? ⟨ka, 5, none⟩ = some (.int .i64 ni) := hmid.ba.cell' (i := 5) rfl
            have A6 : w5.cell? ⟨ka, 6, none⟩ = some (.string ⟨nm.toArray⟩) := hmid.ba.cell' (i := 6) rfl
            have A7 : w5.cell? ⟨ka, 7, none⟩ = some (.int .i64 ac) := hmid.ba.cell' (i := 7) rfl
            have A8 : w5.cell? ⟨ka, 8, none⟩ = some (.int .i64 al) := hmid.ba.cell' (i := 8) rfl
            have A9 : w5.cell? ⟨ka, 9, none⟩ = some (.int .i32 an) := hmid.ba.cell' (i := 9) rfl
            have C7 : w5.cell? ⟨w.heap.size + 3, 0, none⟩ = some (.int .i64 dep) := hmid.b7.cell' (i := 0) rfl
            have C6 : w5.cell? ⟨w.heap.size + 2, 0, none⟩ = some (.int .i64 ((j + 1 : Nat) : Int)) := hmid.b6.cell' (i := 0) rfl
            have HM2 := hide hmid
            clear c4 c5 c6 c7 f6 ct l6 d0 d1 d2 d3 d4 d5 d6 d7 d8 d9 HMID hka hlb K4 N4 NA A0 A1 A2 A3 A4 A5 A6 A7 A8 A9 hmid
            go_wp2
            go_ret
            exact ⟨j + 1, bj, rfl, by have := HM2.out.h1; omega, by omega, ⟨HM2.out.chg, F5, fun y hy => (HM2.out.hF y hy).imp id (fun h => by omega), HM2.out.st⟩, HS0.out.next⟩
          · have x5 : decide ((0 : Int) < (dep : Int)) = false := by simp; omega
            go_upto_region 20 with (fail)
            change Code.wp _ _ _ _ ((wr.setCell ⟨w.heap.size + 2, 0, none⟩ (.int .i64 ((j + 1 : Nat) : Int))).alloc (.cells (actCells ⟨5, ⟨op, d, ai, bi, ni⟩, nm, ac, al, an⟩).toArray 27))
            generalize ((wr.setCell ⟨w.heap.size + 2, 0, none⟩ (.int .i64 ((j + 1 : Nat) : Int))).alloc (.cells (actCells ⟨5, ⟨op, d, ai, bi, ni⟩, nm, ac, al, an⟩).toArray 27)) = w5 at hmid ⊢
            have hka := hmid.hsz
            generalize wr.heap.size = ka at *
            have K4 : w5.cell? ⟨w.heap.size, 0, none⟩ = some (.pointer (some ⟨tb, 0, none⟩)) := hmid.b4.cell' (i := 0) rfl
            have N4 : w.heap.size ∉ F5 := fun hm => by have := hmid.hn _ hm; omega
            have NA : ka ∉ F5 := fun hm => by have := hmid.hn _ hm; omega
            have A0 : w5.cell? ⟨ka, 0, none⟩ = some (.int .i64 5) := hmid.ba.cell' (i := 0) rfl
            have A1 : w5.cell? ⟨ka, 1, none⟩ = some (.int .i64 op) := hmid.ba.cell' (i := 1) rfl
            have A2 : w5.cell? ⟨ka, 2, none⟩ = some (.int .i64 d) := hmid.ba.cell' (i := 2) rfl
            have A3 : w5.cell? ⟨ka, 3, none⟩ = some (.int .i64 ai) := hmid.ba.cell' (i := 3) rfl
            have A4 : w5.cell? ⟨ka, 4, none⟩ = some (.int .i64 bi) := hmid.ba.cell' (i := 4) rfl
            have A5 : w5.cell? ⟨ka, 5, none⟩ = some (.int .i64 ni) := hmid.ba.cell' (i := 5) rfl
            have A6 : w5.cell? ⟨ka, 6, none⟩ = some (.string ⟨nm.toArray⟩) := hmid.ba.cell' (i := 6) rfl
            have A7 : w5.cell? ⟨ka, 7, none⟩ = some (.int .i64 ac) := hmid.ba.cell' (i := 7) rfl
            have A8 : w5.cell? ⟨ka, 8, none⟩ = some (.int .i64 al) := hmid.ba.cell' (i := 8) rfl
            have A9 : w5.cell? ⟨ka, 9, none⟩ = some (.int .i32 an) := hmid.ba.cell' (i := 9) rfl
            have C7 : w5.cell? ⟨w.heap.size + 3, 0, none⟩ = some (.int .i64 dep) := hmid.b7.cell' (i := 0) rfl
            have HL2 := hide (hmid.next (After.refl hmid.st) HS0.out.next)
            have hat1 := HLI.out.b6
            clear c4 c5 c6 c7 f6 ct l6 d0 d1 d2 d3 d4 d5 d6 d7 d8 d9 HMID hka hlb K4 N4 NA A0 A1 A2 A3 A4 A5 A6 A7 A8 A9 hmid
            go_wp2
            rw [atOf_eq hat1, atOf_eq HL2.out.b6]
            exact ⟨⟨j + 1, bj, by omega, HL2⟩, by omega⟩
        have nk5 : (kind == 5) = false := beq_eq_false_iff_ne.2 hkd
        clear hkd
        obtain ⟨F5, hmid⟩ := HMID.out
        have HS0 := hide HLI.out.siz
        have HL2 := hide (hmid.next (After.refl hmid.st) HS0.out.next)
        have hat1 := HLI.out.b6
        clear HMID hmid
        go_wp2
        rw [atOf_eq hat1]
        have hat2 := atOf_eq HL2.out.b6
        first | (refine ⟨⟨j + 1, bj, by omega, HL2⟩, ?_⟩; show l.length - atOf ((wr.setCell ⟨w.heap.size + 2, 0, none⟩ (.int .i64 ((j + 1 : Nat) : Int))).alloc (.cells (actCells ⟨kind, ⟨op, d, ai, bi, ni⟩, nm, ac, al, an⟩).toArray 27)) _ < _; rw [hat2]; omega)
      · have hlt' : decide ((j : Int) < (l.length : Int)) = false := by simpa using hlt
        obtain rfl : j = l.length := by omega
        obtain ⟨F', hs, hst⟩ := HLI.out.st
        have HST' := hide hst
        have HS' := hide hs
        clear hst hs
        go_wp2
        go_ret
        exact ⟨l.length, bj, rfl, HLI.out.h1, hj2, ⟨HLI.out.chg, F', fun k hk => (HS'.out k hk).imp id (fun h => by omega), HST'.out⟩, HLI.out.siz⟩
theorem does_all (tb b x : Nat) (A : Option Addr) (c : Nat) (l : List ActL) (hl : l.length ≤ 60) (hok : ∀ a ∈ l, ActOk a) : ∀ m, DoesAt tb b x A c l m
  | 0 => does_calls tb b x A c l hl hok 0 (fun m' h => by omega)
  | m + 1 => does_calls tb b x A c l hl hok (m + 1) (fun m' h => by
    obtain rfl : m = m' := by omega
    exact does_all tb b x A c l hl hok m)
end Go.Proofs.YtjfnpokebaagmaaGreatDoor
