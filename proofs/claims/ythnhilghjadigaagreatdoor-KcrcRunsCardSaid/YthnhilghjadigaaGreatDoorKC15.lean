/- Texts of this claim, side by side: MkM, MkN, MkO, MkP, MkV. -/
import Derived.Test.YthnhilghjadigaaGreatDoorKC14
/- emit.Maker: Loop, the walk. -/
namespace Go.Proofs.YthnhilghjadigaaGreatDoor
open Go Go.RowKit Go.Deep Go.Maps Go.Proofs.YthnhilghjadigaaGreatDoor.Ab Go.Proofs.YthnhilghjadigaaGreatDoor.Xi
set_option linter.unusedVariables false
attribute [local go_sem] Oper.semAt_some
section
variable {w : World} {b : MP} {s : KS} {F : List Nat}
set_option maxRecDepth 100000 in
set_option maxHeartbeats 4000000 in
theorem mloop_calls (h : KR w b s F) (n : Nat) (bf : FuncId) (f cap : Array Value) (s2 : KS) (hd : s.depth ≤ 10) (h1 : 1 ≤ n) (h2 : n ≤ 32767) (hcan : s.can 1 = true) (hnc : s.nc ≤ 799980) (hs2 : s2.depth = s.depth + 1) (hc2 : s2.nc ≤ 799990)
 (hcl : ∀ (args : Array Value) (W : World), (callFunc bf args).run Tryz.prog W = .ok (.enter bf args) W)
 (hdo : ∀ w1 F1, KR w1 b (s.beg n) F1 → Chg w w1 F → Sub F1 F w → Calls Tryz.prog bf (f ++ #[.int .i64 (s.used : Int)] ++ cap) w1 (MkP (.tuple #[]) s2 b F1 w1)) :
 Calls Tryz.prog 291 #[.pointer (some ⟨b.a, 0, none⟩), .int .i64 (n : Int), .func (.func bf) f cap] w (MkP (.tuple #[]) (s2.fin (s.names + 2)) b F w) := by
 obtain ⟨a1, a2, a3⟩ := can_iff hcan
 have hmix := hide (show Tryz.prog.follows .mixedOrders = true by kernel_rfl)
 have HDO := hide hdo
 have HK := hide h
 obtain ⟨p0, hp0, hf0, hF0⟩ := h
 have c6 := hp0.blk.cell' (i := 6) rfl
 have f6 := hp0.blk.frozen 6
 have hlt := hp0.blk.lt
 have hwa : wrap64 (2 * (s.depth : Int)) = 2 * (s.depth : Int) := by unfold wrap64; omega
 have hwb : wrap64 (8 + 2 * (s.depth : Int)) = ((8 + 2 * s.depth : Nat) : Int) := by unfold wrap64; omega
 have hwc : wrap64 ((s.depth : Int) + 1) = ((s.depth + 1 : Nat) : Int) := by unfold wrap64; omega
 have HP0 := hide hp0
 have HF0 := hide hF0
 have HFS := hide hf0
 have HA1 := hide a1
 have HA2 := hide a2
 have HD := hide hd
 have HN1 := hide h1
 have HN2 := hide h2
 have HNC := hide hnc
 have HS2 := hide hs2
 have HC2 := hide hc2
 clear hp0 hf0 hF0 a1 a2 a3 hcan hdo h1 h2 hnc hs2 hc2
 go_enter Tryz.func291, Tryz.ntmps291
 go_upto_region 2 with (fail)
 change Code.wp _ _ _ _ (((w.alloc (.cells #[.pointer (some ⟨b.a, 0, none⟩)] 46)).alloc (.cells #[.func (.func bf) f cap] 93)).alloc (.cells #[.int .i64 (8 + 2 * (s.depth : Int))] 3))
 have hs1 : (w.alloc (.cells #[.pointer (some ⟨b.a, 0, none⟩)] 46)).heap.size = w.heap.size + 1 := size_alloc _ _
 have hs2 : ((w.alloc (.cells #[.pointer (some ⟨b.a, 0, none⟩)] 46)).alloc (.cells #[.func (.func bf) f cap] 93)).heap.size = w.heap.size + 1 + 1 := by rw [size_alloc, hs1]
 have b3 : Blk (((w.alloc (.cells #[.pointer (some ⟨b.a, 0, none⟩)] 46)).alloc (.cells #[.func (.func bf) f cap] 93)).alloc (.cells #[.int .i64 (8 + 2 * (s.depth : Int))] 3)) w.heap.size 46 [.pointer (some ⟨b.a, 0, none⟩)] := ((Blk.new w 46 [.pointer (some ⟨b.a, 0, none⟩)]).alloc _).alloc _
 have b5 : Blk (((w.alloc (.cells #[.pointer (some ⟨b.a, 0, none⟩)] 46)).alloc (.cells #[.func (.func bf) f cap] 93)).alloc (.cells #[.int .i64 (8 + 2 * (s.depth : Int))] 3)) (w.heap.size + 1) 93 [.func (.func bf) f cap] := by
  have := (Blk.new (w.alloc (.cells #[.pointer (some ⟨b.a, 0, none⟩)] 46)) 93 [.func (.func bf) f cap]).alloc (.cells #[.int .i64 (8 + 2 * (s.depth : Int))] 3)
  rw [hs1] at this
  exact this
 have b6 : Blk (((w.alloc (.cells #[.pointer (some ⟨b.a, 0, none⟩)] 46)).alloc (.cells #[.func (.func bf) f cap] 93)).alloc (.cells #[.int .i64 (8 + 2 * (s.depth : Int))] 3)) (w.heap.size + 1 + 1) 3 [.int .i64 ((8 + 2 * s.depth : Nat) : Int)] := by
  have := Blk.new ((w.alloc (.cells #[.pointer (some ⟨b.a, 0, none⟩)] 46)).alloc (.cells #[.func (.func bf) f cap] 93)) 3 [.int .i64 (8 + 2 * (s.depth : Int))]
  rw [hs2] at this
  rw [show ((8 + 2 * s.depth : Nat) : Int) = 8 + 2 * (s.depth : Int) by omega]
  exact this
 have hsz : (((w.alloc (.cells #[.pointer (some ⟨b.a, 0, none⟩)] 46)).alloc (.cells #[.func (.func bf) f cap] 93)).alloc (.cells #[.int .i64 (8 + 2 * (s.depth : Int))] 3)).heap.size = w.heap.size + 1 + 1 + 1 := by rw [size_alloc, hs2]
 have hc2 : Chg w (((w.alloc (.cells #[.pointer (some ⟨b.a, 0, none⟩)] 46)).alloc (.cells #[.func (.func bf) f cap] 93)).alloc (.cells #[.int .i64 (8 + 2 * (s.depth : Int))] 3)) [] := (((Chg.refl w []).alloc _).alloc _).alloc _
 generalize (((w.alloc (.cells #[.pointer (some ⟨b.a, 0, none⟩)] 46)).alloc (.cells #[.func (.func bf) f cap] 93)).alloc (.cells #[.int .i64 (8 + 2 * (s.depth : Int))] 3)) = w2 at *
 have hp2 := HP0.out.chg0 hc2
 have y6 := hp2.blk.cell' (i := 6) rfl
 have g6 := hp2.blk.frozen 6
 have hl2 := hp2.blk.lt
 have hcd : Chg w2 (w2.setCell ⟨b.a, 6, none⟩ (.int .i64 ((s.depth : Int) + 1))) [b.a] := (Chg.refl w2 _).setCell _ _ (.inl (by simp))
 have hp3 : KB (w2.setCell ⟨b.a, 6, none⟩ (.int .i64 ((s.depth : Int) + 1))) b p0 { s with depth := s.depth + 1, names := s.names } := hp2.numr hcd (s.depth + 1) s.names (by
  have := hp2.blk.set_ 6 (.int .i64 ((s.depth : Int) + 1))
  rw [show ((s.depth + 1 : Nat) : Int) = (s.depth : Int) + 1 by omega]
  exact this) { hp2.wf with dep := by have := HD.out; show s.depth + 1 ≤ 11; omega }
 have hFlt : ∀ k ∈ F, k < w.heap.size := HK.out.lt
 have hba : b.a ∈ F := by rw [HF0.out]; exact KP.mem_part (i := 0) (by simp [KP.part])
 have hbne : ∀ k, w.heap.size ≤ k → k ∉ [b.a] := fun k hk hm => by
  have := hFlt _ hba
  simp at hm
  omega
 have b3' := b3.chg hcd (hbne _ (Nat.le_refl _))
 have b5' := b5.chg hcd (hbne _ (Nat.le_succ _))
 have b6' := b6.chg hcd (hbne _ (by omega))
 have hkr3 : KR (w2.setCell ⟨b.a, 6, none⟩ (.int .i64 ((s.depth : Int) + 1))) b { s with depth := s.depth + 1 } F := ⟨p0, hp3, HFS.out, HF0.out⟩
 have hc3 : Chg w (w2.setCell ⟨b.a, 6, none⟩ (.int .i64 ((s.depth : Int) + 1))) F := (hc2.more (by simp)).trans (hcd.more (D' := F) (fun k hk => .inl (by simp at hk; exact hk ▸ hba))) (fun k hk => .inl hk)
 have hsz3 : (w2.setCell ⟨b.a, 6, none⟩ (.int .i64 ((s.depth : Int) + 1))).heap.size = w.heap.size + 1 + 1 + 1 := by rw [size_setCell, hsz]
 have B3 := hide b3'
 have B5 := hide b5'
 have B6 := hide b6'
 have HC3 := hide hc3
 have HZ3 := hide hsz3
 have z3 := b3'.cell' (i := 0) rfl
 have hm := room_calls hkr3 1 false (Nat.le_refl _) HA1.out (by have := HA2.out; show s.names + 1 ≤ _; omega)
 have x3 := b3.cell' (i := 0) rfl
 have HFL := hide hFlt
 clear hs1 hs2 b3 b5 b6 hsz hc2 hp2 hcd hp3 b3' b5' b6' hkr3 hc3 hsz3 c6 f6 hFlt hbne
 go_wp2_with (go_at_call 37; refine hm.mono ?_)
 rintro e w3 ⟨rfl, hc4, F3, hs4, p, hp, hf, rfl⟩
 have hz3 := HZ3.out
 have nk : ∀ k, w.heap.size ≤ k → k < w.heap.size + 1 + 1 + 1 → k ∉ F := fun k h1 h2 hm => by have := HFL.out k hm; omega
 have nk3 : ∀ k, w.heap.size ≤ k → k < w.heap.size + 1 + 1 + 1 → k ∉ p.foot b.a := fun k h1 h2 => far_sub hs4 (nk k h1 h2) (by rw [hz3]; exact h2)
 have b3 := B3.out.chg hc4 (nk _ (Nat.le_refl _) (by omega))
 have b5 := B5.out.chg hc4 (nk _ (by omega) (by omega))
 have b6 := B6.out.chg hc4 (nk _ (by omega) (by omega))
 have HC4 : Hid (Chg w w3 F) := hide (HC3.out.trans hc4 (fun k hk => .inl hk))
 have HS4 : Hid (Sub (p.foot b.a) F w) := hide (fun k hk => by
  rcases hs4 k hk with h | h
  · exact .inl h
  · exact .inr (by rw [hz3] at h; omega))
 have q3 := b3.cell' (i := 0) rfl
 have q6 := b6.cell' (i := 0) rfl
 have HPF := hide hf
 have HP := hide hp
 have HB3 := hide b3
 have HB5 := hide b5
 have HB6 := hide b6
 have HNK := hide nk3
 have HNP := hide (fun k hk => hp.flt k hk)
 clear hm hc4 hs4 hp hf b3 b5 b6 nk nk3 hz3 x3 z3 y6 g6 B3 B5 B6
 go_upto_region 4 with (fail)
 change Code.wp _ _ _ _ (w3.alloc (.cells #[.int .i64 (s.used : Int)] 3))
 have hc43 : Chg w3 (w3.alloc (.cells #[.int .i64 (s.used : Int)] 3)) [] := (Chg.refl w3 []).alloc _
 have b7 := Blk.new w3 3 [.int .i64 (s.used : Int)]
 have b3 := HB3.out.alloc (.cells #[.int .i64 (s.used : Int)] 3)
 have b5 := HB5.out.alloc (.cells #[.int .i64 (s.used : Int)] 3)
 have b6 := HB6.out.alloc (.cells #[.int .i64 (s.used : Int)] 3)
 have hp4 := HP.out.chg0 hc43
 have n7 : w3.heap.size ∉ p.foot b.a := fun hm => by have := HNP.out _ hm; omega
 have hbp : b.a ∈ p.foot b.a := KP.mem_part (i := 0) (by simp [KP.part])
 have HC44 : Hid (Chg w (w3.alloc (.cells #[.int .i64 (s.used : Int)] 3)) F) := hide (HC4.out.alloc _)
 generalize hk7 : w3.heap.size = k7 at *
 generalize w3.alloc (.cells #[.int .i64 (s.used : Int)] 3) = w4 at *
 have hbne : ∀ k ∈ [w.heap.size, w.heap.size + 1 + 1, k7, w.heap.size + 1], k ∉ p.foot b.a := fun k hk => by
  simp only [List.mem_cons, List.not_mem_nil, or_false] at hk
  rcases hk with rfl | rfl | rfl | rfl
  · exact HNK.out _ (Nat.le_refl _) (by omega)
  · exact HNK.out _ (by omega) (by omega)
  · exact n7
  · exact HNK.out _ (by omega) (by omega)
 have hb1 : ∀ k ∈ [w.heap.size, w.heap.size + 1 + 1, k7, w.heap.size + 1], k ∉ [b.a] := fun k hk hm => hbne k hk (by simp at hm; exact hm ▸ hbp)
 have HBNE := hide hbne
 have HB := hide hp4
 have HN : Hid (s.names + 1 + 1 ≤ 100000) := hide (by have := HA2.out; omega)
 have HCA := hide (show ∀ L w1, W2 9 11 (fun w' => Chg w4 w' []) (fun w' => Chg w4 w' [b.a] ∧ KB w' b p { (({ s with depth := s.depth + 1 } : KS).room 1 false) with names := s.names + 1 + 1 }) (fun w' => Chg w4 w' (p.foot b.a) ∧ ∃ p3, KB w' b p3 ({ s2 with rc := ⟨38, (8 + 2 * s.depth : Nat), (9 + 2 * s.depth : Nat), 0, 0⟩ :: ⟨31, (8 + 2 * s.depth : Nat), (8 + 2 * s.depth : Nat), 0, 1⟩ :: s2.rc, nc := s2.nc + 2, ru := (s.names + 1 + 1, s2.nc + 1) :: s2.ru } : KS) ∧ FsOk p3.fs s2 ∧ Sub (p3.foot b.a) (p.foot b.a) w4) L w1 → L 11 = false → w1.cell? ⟨w.heap.size, 0, none⟩ = some (.pointer (some ⟨b.a, 0, none⟩)) from by
  intro L w1 hW h11
  cases h9 : L 9 with
  | false => exact (b3.chg (W2.a hW h9 h11) (by simp)).cell' (i := 0) rfl
  | true => exact (b3.chg (W2.b hW h9 h11).1 (hb1 _ (by simp))).cell' (i := 0) rfl)
 have HCB := hide (show ∀ L w1, W2 9 11 (fun w' => Chg w4 w' []) (fun w' => Chg w4 w' [b.a] ∧ KB w' b p { (({ s with depth := s.depth + 1 } : KS).room 1 false) with names := s.names + 1 + 1 }) (fun w' => Chg w4 w' (p.foot b.a) ∧ ∃ p3, KB w' b p3 ({ s2 with rc := ⟨38, (8 + 2 * s.depth : Nat), (9 + 2 * s.depth : Nat), 0, 0⟩ :: ⟨31, (8 + 2 * s.depth : Nat), (8 + 2 * s.depth : Nat), 0, 1⟩ :: s2.rc, nc := s2.nc + 2, ru := (s.names + 1 + 1, s2.nc + 1) :: s2.ru } : KS) ∧ FsOk p3.fs s2 ∧ Sub (p3.foot b.a) (p.foot b.a) w4) L w1 → L 11 = false → w1.cell? ⟨w.heap.size + 1 + 1, 0, none⟩ = some (.int .i64 ((8 + 2 * s.depth : Nat) : Int)) from by
  intro L w1 hW h11
  cases h9 : L 9 with
  | false => exact (b6.chg (W2.a hW h9 h11) (by simp)).cell' (i := 0) rfl
  | true => exact (b6.chg (W2.b hW h9 h11).1 (hb1 _ (by simp))).cell' (i := 0) rfl)
 have HB3F := hide b3
 have HC0 := hide (show ∀ L w1, W2 9 11 (fun w' => Chg w4 w' []) (fun w' => Chg w4 w' [b.a] ∧ KB w' b p { (({ s with depth := s.depth + 1 } : KS).room 1 false) with names := s.names + 1 + 1 }) (fun w' => Chg w4 w' (p.foot b.a) ∧ ∃ p3, KB w' b p3 ({ s2 with rc := ⟨38, (8 + 2 * s.depth : Nat), (9 + 2 * s.depth : Nat), 0, 0⟩ :: ⟨31, (8 + 2 * s.depth : Nat), (8 + 2 * s.depth : Nat), 0, 1⟩ :: s2.rc, nc := s2.nc + 2, ru := (s.names + 1 + 1, s2.nc + 1) :: s2.ru } : KS) ∧ FsOk p3.fs s2 ∧ Sub (p3.foot b.a) (p.foot b.a) w4) L w1 → L 11 = false → w1.cell? ⟨b.a, 0, none⟩ = some (.pointer (some ⟨p.bb, 0, none⟩)) from by
  intro L w1 hW h11
  cases h9 : L 9 with
  | false => exact (HB.out.blk.chg (W2.a hW h9 h11) (by simp)).cell' (i := 0) rfl
  | true => exact (W2.b hW h9 h11).2.blk.cell' (i := 0) rfl)
 have hbq := beg_eq s n
 have HLC := hide (show ∀ w1, Chg w4 w1 [b.a] → KB w1 b p { (({ s with depth := s.depth + 1 } : KS).room 1 false) with names := s.names + 1 + 1 } → _ from fun w1 h1 h2 =>
  bloop_calls (s := { (({ s with depth := s.depth + 1 } : KS).room 1 false) with names := s.names + 1 + 1 }) h2 HPF.out (Nat.succ_le_succ (Nat.zero_le _)) HD.out HN1.out HN2.out HNC.out w.heap.size (w.heap.size + 1 + 1) k7 (w.heap.size + 1) s.used bf f cap s2
   (open_eq (s := (({ s with depth := s.depth + 1 } : KS).room 1 false)) HB.out.wf HD.out HN1.out HN2.out HN.out)
   (inL_WF (s := (({ s with depth := s.depth + 1 } : KS).room 1 false)) HB.out.wf HN.out (by have := HNC.out; show s.nc ≤ _; omega))
   (b3.chg h1 (hb1 _ (by simp))) (b6.chg h1 (hb1 _ (by simp))) (b7.chg h1 (hb1 _ (by simp))) (b5.chg h1 (hb1 _ (by simp))) HBNE.out (by have := HA1.out; omega) hcl HC2.out
   (fun w5 F5 hk5 hc5 hs5 => HDO.out w5 F5 hk5 (HC44.out.trans ((h1.more (D' := p.foot b.a) (fun k hk => .inl (by simp at hk; exact hk ▸ hbp))).trans hc5 (fun k hk => .inl hk)) (fun k hk => HS4.out k hk)) (fun k hk => by
     rcases hs5 k hk with h | h
     · exact HS4.out k h
     · exact .inr (by have := HC44.out.size; have := h1.size; omega))))
 have HLE := hide (show ∀ w1, Chg w4 w1 [b.a] → KB w1 b p { (({ s with depth := s.depth + 1 } : KS).room 1 false) with names := s.names + 1 + 1 } → ∀ (e : Ending) w2, (e = .returned (.int .i64 0) ∧ Chg w1 w2 (p.foot b.a) ∧ ∃ p3, KB w2 b p3 ({ s2 with rc := ⟨38, (8 + 2 * s.depth : Nat), (9 + 2 * s.depth : Nat), 0, 0⟩ :: ⟨31, (8 + 2 * s.depth : Nat), (8 + 2 * s.depth : Nat), 0, 1⟩ :: s2.rc, nc := s2.nc + 2, ru := (s.names + 1 + 1, s2.nc + 1) :: s2.ru } : KS) ∧ FsOk p3.fs s2 ∧ Sub (p3.foot b.a) (p.foot b.a) w1) → e = .returned (.int .i64 0) ∧ (fun w' => Chg w4 w' (p.foot b.a) ∧ ∃ p3, KB w' b p3 ({ s2 with rc := ⟨38, (8 + 2 * s.depth : Nat), (9 + 2 * s.depth : Nat), 0, 0⟩ :: ⟨31, (8 + 2 * s.depth : Nat), (8 + 2 * s.depth : Nat), 0, 1⟩ :: s2.rc, nc := s2.nc + 2, ru := (s.names + 1 + 1, s2.nc + 1) :: s2.ru } : KS) ∧ FsOk p3.fs s2 ∧ Sub (p3.foot b.a) (p.foot b.a) w4) w2 from fun w1 h1 h2 e w2 hq => by
  obtain ⟨rfl, hc, p3, hk3, hf3, hs3⟩ := hq
  refine ⟨rfl, (h1.more (D' := p.foot b.a) (fun k hk => .inl (by simp at hk; exact hk ▸ hbp))).trans hc (fun k hk => .inl hk), p3, hk3, hf3, fun k hk => ?_⟩
  rcases hs3 k hk with h | h
  · exact .inl h
  · exact .inr (Nat.le_trans h1.size h))
 clear b3 b5 b6 b7 hp4 n7 hbne hb1 hc43 q3 q6 HB3 HB5 HB6 HNK HNP hbq
 refine wp_regionJ hmix.out _ _ (fun _ => vLp b.a p.bb w.heap.size (w.heap.size + 1 + 1) k7 (w.heap.size + 1) (8 + 2 * s.depth) n (s.names + 1)) (fun (_ : Unit) L w' => W2 9 11 (fun w' => Chg w4 w' []) (fun w' => Chg w4 w' [b.a] ∧ KB w' b p { (({ s with depth := s.depth + 1 } : KS).room 1 false) with names := s.names + 1 + 1 }) (fun w' => Chg w4 w' (p.foot b.a) ∧ ∃ p3, KB w' b p3 ({ s2 with rc := ⟨38, (8 + 2 * s.depth : Nat), (9 + 2 * s.depth : Nat), 0, 0⟩ :: ⟨31, (8 + 2 * s.depth : Nat), (8 + 2 * s.depth : Nat), 0, 1⟩ :: s2.rc, nc := s2.nc + 2, ru := (s.names + 1 + 1, s2.nc + 1) :: s2.ru } : KS) ∧ FsOk p3.fs s2 ∧ Sub (p3.foot b.a) (p.foot b.a) w4) L w') () (by kernel_rfl) [] (by kernel_rfl) (fun p hp γ => by simp at hp) (by kernel_rfl) ?step ?start ?fin ?ext
 case start => exact (Chg.refl w4 []).drew
 case ext => exact fun γ L L' w' h hw => hw.ext (h 9 (by decide)) (h 11 (by decide))
 case step =>
  intro i o ho L av w1 γ hdn htm hW hL hpre K Q hK
  match i, ho with
  | 0, ho =>
   injection ho with ho; subst ho
   have b3 : av.tmps.getD 3 undef = .pointer (some ⟨w.heap.size, 0, none⟩) := slB htm 3 (by kernel_rfl)
   clear htm
   have l11 : L 11 = false := by
    cases h : L 11 with
    | false => rfl
    | true =>
     have h3 : L 3 = true := hdn 11 _ rfl h ⟨3, .data⟩ (by simp) rfl
     have h2 : L 2 = true := hdn 3 _ rfl h3 ⟨2, .data⟩ (by simp) rfl
     have h1 : L 1 = true := hdn 2 _ rfl h2 ⟨1, .data⟩ (by simp) rfl
     have h0 : L 0 = true := hdn 1 _ rfl h1 ⟨0, .data⟩ (by simp) rfl
     rw [hL] at h0; cases h0
   have y := HCA.out L w1 hW l11
   refine val_now ?_ (hK () w1 (fun _ _ => rfl) (W2.keep (by decide) (by decide) hW)); go_simp; rfl
  | 1, ho =>
   injection ho with ho; subst ho
   have s0 := slA htm 23 0 (by kernel_rfl) (hpre ⟨0, .data⟩ (by simp) rfl)
   simp only [vLp] at s0
   clear htm
   refine val_now ?_ (hK () w1 (fun _ _ => rfl) (W2.keep (by decide) (by decide) hW)); go_simp; rfl
  | 2, ho =>
   injection ho with ho; subst ho
   have s1 := slA htm 24 1 (by kernel_rfl) (hpre ⟨1, .data⟩ (by simp) rfl)
   simp only [vLp] at s1
   clear htm
   refine val_now ?_ (hK () w1 (fun _ _ => rfl) (W2.keep (by decide) (by decide) hW)); go_simp; rfl
  | 3, ho =>
   injection ho with ho; subst ho
   have s2 := slA htm 25 2 (by kernel_rfl) (hpre ⟨2, .data⟩ (by simp) rfl)
   simp only [vLp] at s2
   clear htm
   have l11 : L 11 = false := by
    cases h : L 11 with
    | false => rfl
    | true =>
     have h3 : L 3 = true := hdn 11 _ rfl h ⟨3, .data⟩ (by simp) rfl
     rw [hL] at h3; cases h3
   have y := HC0.out L w1 hW l11
   refine val_now ?_ (hK () w1 (fun _ _ => rfl) (W2.keep (by decide) (by decide) hW)); go_simp; rfl
  | 4, ho =>
   injection ho with ho; subst ho
   have b6 : av.tmps.getD 6 undef = .pointer (some ⟨w.heap.size + 1 + 1, 0, none⟩) := slB htm 6 (by kernel_rfl)
   clear htm
   have l11 : L 11 = false := by
    cases h : L 11 with
    | false => rfl
    | true =>
     have h4 : L 4 = true := hdn 11 _ rfl h ⟨4, .data⟩ (by simp) rfl
     rw [hL] at h4; cases h4
   have y := HCB.out L w1 hW l11
   refine val_now ?_ (hK () w1 (fun _ _ => rfl) (W2.keep (by decide) (by decide) hW)); go_simp; rfl
  | 5, ho =>
   injection ho with ho; subst ho
   have b6 : av.tmps.getD 6 undef = .pointer (some ⟨w.heap.size + 1 + 1, 0, none⟩) := slB htm 6 (by kernel_rfl)
   clear htm
   have l11 : L 11 = false := by
    cases h : L 11 with
    | false => rfl
    | true =>
     have h6 : L 6 = true := hdn 11 _ rfl h ⟨6, .data⟩ (by simp) rfl
     have h5 : L 5 = true := hdn 6 _ rfl h6 ⟨5, .data⟩ (by simp) rfl
     rw [hL] at h5; cases h5
   have y := HCB.out L w1 hW l11
   refine val_now ?_ (hK () w1 (fun _ _ => rfl) (W2.keep (by decide) (by decide) hW)); go_simp; rfl
  | 6, ho =>
   injection ho with ho; subst ho
   have s5 := slA htm 28 5 (by kernel_rfl) (hpre ⟨5, .data⟩ (by simp) rfl)
   simp only [vLp] at s5
   clear htm
   refine val_now (v := .int .i64 ((8 + 2 * s.depth + 1 : Nat) : Int)) ?_ (hK () w1 (fun _ _ => rfl) (W2.keep (by decide) (by decide) hW))
   go_simp
   rw [IntKind.wrap_i64]
   have := HD.out
   omega
  | 7, ho =>
   injection ho with ho; subst ho
   have b1 : av.tmps.getD 1 undef = .int .i64 (n : Int) := slB htm 1 (by kernel_rfl)
   clear htm
   refine val_now ?_ (hK () w1 (fun _ _ => rfl) (W2.keep (by decide) (by decide) hW)); go_simp; rfl
  | 8, ho =>
   injection ho with ho; subst ho
   have b3 : av.tmps.getD 3 undef = .pointer (some ⟨w.heap.size, 0, none⟩) := slB htm 3 (by kernel_rfl)
   clear htm
   have l11 : L 11 = false := by
    cases h : L 11 with
    | false => rfl
    | true =>
     have h9 : L 9 = true := hdn 11 _ rfl h ⟨9, .data⟩ (by simp) rfl
     have h8 : L 8 = true := hdn 9 _ rfl h9 ⟨8, .data⟩ (by simp) rfl
     rw [hL] at h8; cases h8
   have y := HCA.out L w1 hW l11
   refine val_now ?_ (hK () w1 (fun _ _ => rfl) (W2.keep (by decide) (by decide) hW)); go_simp; rfl
  | 9, ho =>
   injection ho with ho; subst ho
   have s8 := slA htm 31 8 (by kernel_rfl) (hpre ⟨8, .data⟩ (by simp) rfl)
   simp only [vLp] at s8
   clear htm
   have l11 : L 11 = false := by
    cases h : L 11 with
    | false => rfl
    | true =>
     have h9 : L 9 = true := hdn 11 _ rfl h ⟨9, .data⟩ (by simp) rfl
     rw [hL] at h9; cases h9
   have hA := W2.a hW hL l11
   refine call_now (f := 69) (args := #[.pointer (some ⟨b.a, 0, none⟩), .string ⟨#[108]⟩]) ?_ (name_calls (HB.out.chg0 hA) 108 HN.out) ?_
   · go_simp
   · rintro e w2 ⟨rfl, hc, hk⟩
     exact ⟨_, rfl, hK () w2 (fun _ _ => rfl) (W2.to_b (by decide) l11 ⟨(hA.more (by simp)).trans hc (fun k hk => .inl hk), hk⟩)⟩
  | 10, ho =>
   injection ho with ho; subst ho
   have b3 : av.tmps.getD 3 undef = .pointer (some ⟨w.heap.size, 0, none⟩) := slB htm 3 (by kernel_rfl)
   have b6 : av.tmps.getD 6 undef = .pointer (some ⟨w.heap.size + 1 + 1, 0, none⟩) := slB htm 6 (by kernel_rfl)
   have b7 : av.tmps.getD 7 undef = .pointer (some ⟨k7, 0, none⟩) := slB htm 7 (by kernel_rfl)
   have b5 : av.tmps.getD 5 undef = .pointer (some ⟨w.heap.size + 1, 0, none⟩) := slB htm 5 (by kernel_rfl)
   clear htm
   refine val_now ?_ (hK () w1 (fun _ _ => rfl) (W2.keep (by decide) (by decide) hW)); go_simp; rfl
  | 11, ho =>
   injection ho with ho; subst ho
   have s3 := slA htm 26 3 (by kernel_rfl) (hpre ⟨3, .data⟩ (by simp) rfl)
   have s4 := slA htm 27 4 (by kernel_rfl) (hpre ⟨4, .data⟩ (by simp) rfl)
   have s6 := slA htm 29 6 (by kernel_rfl) (hpre ⟨6, .data⟩ (by simp) rfl)
   have s7 := slA htm 30 7 (by kernel_rfl) (hpre ⟨7, .data⟩ (by simp) rfl)
   have l9 := hpre ⟨9, .data⟩ (by simp) rfl
   have s9 := slA htm 32 9 (by kernel_rfl) l9
   have s10 := slA htm 33 10 (by kernel_rfl) (hpre ⟨10, .data⟩ (by simp) rfl)
   simp only [vLp] at s3 s4 s6 s7 s9 s10
   clear htm
   have l9 := hpre ⟨9, .data⟩ (by simp) rfl
   obtain ⟨hcB, hkB⟩ := W2.b hW l9 hL
   refine call_now (f := 295) (args := #[.pointer (some ⟨p.bb, 0, none⟩), .int .i64 ((8 + 2 * s.depth : Nat) : Int), .int .i64 ((9 + 2 * s.depth : Nat) : Int), .int .i64 (n : Int), strV (lName (s.names + 1 + 1)), .func (.func 296) #[] #[.pointer (some ⟨w.heap.size, 0, none⟩), .pointer (some ⟨w.heap.size + 1 + 1, 0, none⟩), .pointer (some ⟨k7, 0, none⟩), .pointer (some ⟨w.heap.size + 1, 0, none⟩)]]) ?_ (HLC.out w1 hcB hkB) ?_
   · unfold strV lName; go_simp; omega
   · intro e w2 hq
     obtain ⟨rfl, hC⟩ := HLE.out w1 hcB hkB e w2 hq
     exact ⟨_, rfl, hK () w2 (fun _ _ => rfl) (W2.to_c hC)⟩
  | _ + 12, ho => cases ho
 case fin =>
 intro γ w1 hW
 rw [finG_puts, putsR_list, putsL_dst]
 simp only [List.map_cons, List.map_nil]
 rw [putsLp]
 simp only [vLp]
 have hW : (fun w' => Chg w4 w' (p.foot b.a) ∧ ∃ p3, KB w' b p3 ({ s2 with rc := ⟨38, (8 + 2 * s.depth : Nat), (9 + 2 * s.depth : Nat), 0, 0⟩ :: ⟨31, (8 + 2 * s.depth : Nat), (8 + 2 * s.depth : Nat), 0, 1⟩ :: s2.rc, nc := s2.nc + 2, ru := (s.names + 1 + 1, s2.nc + 1) :: s2.ru } : KS) ∧ FsOk p3.fs s2 ∧ Sub (p3.foot b.a) (p.foot b.a) w4) w1 := hW
 obtain ⟨hc1, p3, hk3, hf3, hs3⟩ := hW
 have x3 := (HB3F.out.chg hc1 (HBNE.out _ (by simp))).cell' (i := 0) rfl
 have y6 : w1.cell? ⟨b.a, 6, none⟩ = some (.int .i64 ((s.depth : Int) + 1)) := by
  have := hk3.blk.cell' (i := 6) rfl
  rw [this, show ((({ s2 with rc := ⟨38, (8 + 2 * s.depth : Nat), (9 + 2 * s.depth : Nat), 0, 0⟩ :: ⟨31, (8 + 2 * s.depth : Nat), (8 + 2 * s.depth : Nat), 0, 1⟩ :: s2.rc, nc := s2.nc + 2, ru := (s.names + 1 + 1, s2.nc + 1) :: s2.ru } : KS).depth : Nat) : Int) = (s.depth : Int) + 1 by have := HS2.out; show ((s2.depth : Nat) : Int) = _; omega]
 have g6 := hk3.blk.frozen 6
 have hl1 := hk3.blk.lt
 have hw9 : wrap64 ((s.depth : Int) + 1 - 1) = (s.depth : Int) := by have := HD.out; unfold wrap64; omega
 have HK3 := hide hk3
 have HC1 := hide hc1
 have HF3 := hide hf3
 have HS3 := hide hs3
 clear hc1 hk3 hf3 hs3 hwa hwb hwc hlt
 go_wp2
 refine bodyPost_end (results_none rfl _ _ _) rfl ?_
 have hcd : Chg w1 (w1.setCell ⟨b.a, 6, none⟩ (.int .i64 (s.depth : Int))) [b.a] := (Chg.refl w1 _).setCell _ _ (.inl (by simp))
 have hfin := fin_eq HS2.out (s.names + 2)
 have hk4 : KB (w1.setCell ⟨b.a, 6, none⟩ (.int .i64 (s.depth : Int))) b p3 { ({ s2 with rc := ⟨38, (8 + 2 * s.depth : Nat), (9 + 2 * s.depth : Nat), 0, 0⟩ :: ⟨31, (8 + 2 * s.depth : Nat), (8 + 2 * s.depth : Nat), 0, 1⟩ :: s2.rc, nc := s2.nc + 2, ru := (s.names + 1 + 1, s2.nc + 1) :: s2.ru } : KS) with depth := s.depth, names := s2.names } := HK3.out.numr hcd s.depth s2.names (HK3.out.blk.set_ 6 (.int .i64 (s.depth : Int))) { HK3.out.wf with dep := by have := HD.out; show s.depth ≤ 11; omega }
 have hx : ({ ({ s2 with rc := ⟨38, (8 + 2 * s.depth : Nat), (9 + 2 * s.depth : Nat), 0, 0⟩ :: ⟨31, (8 + 2 * s.depth : Nat), (8 + 2 * s.depth : Nat), 0, 1⟩ :: s2.rc, nc := s2.nc + 2, ru := (s.names + 1 + 1, s2.nc + 1) :: s2.ru } : KS) with depth := s.depth, names := s2.names } : KS) = s2.fin (s.names + 2) := by rw [hfin]
 rw [hx] at hk4
 have hbp : b.a ∈ p.foot b.a := KP.mem_part (i := 0) (by simp [KP.part])
 have hc5 : Chg w4 (w1.setCell ⟨b.a, 6, none⟩ (.int .i64 (s.depth : Int))) (p.foot b.a) := HC1.out.trans (hcd.more (D' := p.foot b.a) (fun k hk => .inl (by simp at hk; exact hk ▸ hbp))) (fun k hk => .inl hk)
 refine ⟨rfl, HC44.out.trans hc5 (fun k hk => HS4.out k hk), p3.foot b.a, fun k hk => ?_, p3, hk4, ?_, rfl⟩
 · rcases HS3.out k hk with h | h
   · exact HS4.out k h
   · exact .inr (Nat.le_trans HC44.out.size h)
 · rw [hfin]
   exact HF3.out
end
end Go.Proofs.YthnhilghjadigaaGreatDoor

/- emit.Maker: lists of its own; table, Answer. -/
namespace Go.Proofs.YthnhilghjadigaaGreatDoor
open Go Go.RowKit Go.Deep Go.Maps Go.Proofs.YthnhilghjadigaaGreatDoor.Ab Go.Proofs.YthnhilghjadigaaGreatDoor.Xi
set_option linter.unusedVariables false
attribute [local go_sem] Oper.semAt_some
theorem info_int1 : (Tryz.prog.info? 3).map (fun i => (i.zero, i.size, i.bytes)) = some (some (.int .i64 0), 1, 8) := by kernel_rfl
theorem one_ints' (l : List Nat) : ∀ u ∈ ints l, u.oneCell' = true := fun u hu => by
 obtain ⟨n, _, rfl⟩ := List.mem_map.1 hu
 rfl
theorem ints_len (l : List Nat) : (ints l).length = l.length := List.length_map ..
section
variable {w w4 : World} {b : MP} {p : KP} {s : KS}
theorem KB.tabsr (h : KB w b p s) {v : Value} {l : List Nat} {n : Nat} (hc : Chg w w4 p.tv.ownBlock.toList) (ho : w4.ownsRow 0 3 1 v n (ints l.reverse)) (hs : Sub v.ownBlock.toList p.tv.ownBlock.toList w) (hn : n = l.length) (hw : ({ s with rt := l, nt := n } : KS).WF) :
 KB (w4.setCell ⟨b.a, 5, none⟩ v) b { p with tv := v } { s with rt := l, nt := n } ∧ Chg w (w4.setCell ⟨b.a, 5, none⟩ v) (p.foot b.a) ∧ Sub (KP.foot b.a { p with tv := v }) (p.foot b.a) w := by
 have hx : Chg w4 (w4.setCell ⟨b.a, 5, none⟩ v) [b.a] := (Chg.refl w4 _).setCell _ _ (.inl (by simp))
 have hsw : ∀ j, j ≠ 6 → KP.part b.a { p with tv := v } j = p.part b.a j := fun i hi => by
  rcases i with _ | _ | _ | _ | _ | _ | _ | _ | _ | _ | i
  case succ.succ.succ.succ.succ.succ.zero => exact absurd rfl hi
  all_goals rfl
 have hb4 := h.blk.chg hc fun hm => h.apart 0 6 b.a (by decide) (by simp [KP.part]) hm
 have hv : b.a ∉ v.ownBlock.toList := fun hm => by
  rcases hs _ hm with h1 | h1
  · exact h.apart 0 6 b.a (by decide) (by simp [KP.part]) h1
  · have := h.blk.lt; omega
 have hD : ∀ i, i ≠ 0 → ∀ k ∈ p.part b.a i, k ∉ [b.a] := fun i hi k hk hm => h.apart i 0 k hi hk hm
 subst hn
 refine ⟨{
  bbq := h.bbq
  blk := hb4.set_ 5 v
  bld := (h.bld.chg hc fun k hk hm => h.apart 1 6 k (by decide) hk hm).chg hx (hD 1 (by decide))
  plan := (h.plan.chg hc (fun hm => h.apart 2 6 _ (by decide) (by simp [KP.part]) hm) fun k hk hm => h.apart 9 6 k (by decide) hk hm).chg hx (hD 2 (by decide) _ (by simp [KP.part])) (hD 9 (by decide))
  data := (h.data.chg hc fun hm => h.apart 3 6 _ (by decide) (by simp [KP.part]) hm).chg hx (hD 3 (by decide) _ (by simp [KP.part]))
  sec := (h.sec.chg hc fun hm => h.apart 4 6 _ (by decide) (by simp [KP.part]) hm).chg hx (hD 4 (by decide) _ (by simp [KP.part]))
  cons := (h.cons.chg hc fun hm => h.apart 5 6 _ (by decide) (by simp [KP.part]) hm).chg hx (hD 5 (by decide) _ (by simp [KP.part]))
  tabs := own_chgD ho hx fun g hg hm => hv (by simp at hm; exact hm ▸ Option.mem_toList.2 hg)
  inn := own_chgD (own_chgD h.inn hc fun g hg => own_blk (fun k hk hm => h.apart 7 6 k (by decide) hk hm) hg) hx fun g hg => own_blk (hD 7 (by decide)) hg
  out := own_chgD (own_chgD h.out hc fun g hg => own_blk (fun k hk hm => h.apart 8 6 k (by decide) hk hm) hg) hx fun g hg => own_blk (hD 8 (by decide)) hg
  wf := hw
  nd := h.nd
  ns := h.ns
  ncn := h.ncn
  apart := h.apart.swap (w := w) 6 h.lt hs hsw
  glo := (h.glo.chg hc fun k hk => h.high 6 k hk).chg hx fun k hk => by
   simp at hk
   exact hk ▸ h.high 0 b.a (by simp [KP.part])
  high := KP.high_swap (w := w) h.high 6 h.glo.size hs hsw }, ?_, KP.foot_sub 6 hs hsw⟩
 exact (hc.more (D' := p.foot b.a) fun k hk => .inl (KP.mem_part (i := 6) hk)).setCell _ _ (.inl (KP.mem_part (i := 0) (by simp [KP.part])))
theorem KB.innr (h : KB w b p s) {v : Value} {l : List Nat} {n : Nat} (hc : Chg w w4 p.iv.ownBlock.toList) (ho : w4.ownsRow 0 3 1 v n (ints l.reverse)) (hs : Sub v.ownBlock.toList p.iv.ownBlock.toList w) (hn : n = l.length) (hw : ({ s with ri := l } : KS).WF) :
 KB (w4.setCell ⟨b.a, 11, none⟩ v) b { p with iv := v } { s with ri := l } ∧ Chg w (w4.setCell ⟨b.a, 11, none⟩ v) (p.foot b.a) ∧ Sub (KP.foot b.a { p with iv := v }) (p.foot b.a) w := by
 have hx : Chg w4 (w4.setCell ⟨b.a, 11, none⟩ v) [b.a] := (Chg.refl w4 _).setCell _ _ (.inl (by simp))
 have hsw : ∀ j, j ≠ 7 → KP.part b.a { p with iv := v } j = p.part b.a j := fun i hi => by
  rcases i with _ | _ | _ | _ | _ | _ | _ | _ | _ | _ | i
  case succ.succ.succ.succ.succ.succ.succ.zero => exact absurd rfl hi
  all_goals rfl
 have hb4 := h.blk.chg hc fun hm => h.apart 0 7 b.a (by decide) (by simp [KP.part]) hm
 have hv : b.a ∉ v.ownBlock.toList := fun hm => by
  rcases hs _ hm with h1 | h1
  · exact h.apart 0 7 b.a (by decide) (by simp [KP.part]) h1
  · have := h.blk.lt; omega
 have hD : ∀ i, i ≠ 0 → ∀ k ∈ p.part b.a i, k ∉ [b.a] := fun i hi k hk hm => h.apart i 0 k hi hk hm
 subst hn
 refine ⟨{
  bbq := h.bbq
  blk := hb4.set_ 11 v
  bld := (h.bld.chg hc fun k hk hm => h.apart 1 7 k (by decide) hk hm).chg hx (hD 1 (by decide))
  plan := (h.plan.chg hc (fun hm => h.apart 2 7 _ (by decide) (by simp [KP.part]) hm) fun k hk hm => h.apart 9 7 k (by decide) hk hm).chg hx (hD 2 (by decide) _ (by simp [KP.part])) (hD 9 (by decide))
  data := (h.data.chg hc fun hm => h.apart 3 7 _ (by decide) (by simp [KP.part]) hm).chg hx (hD 3 (by decide) _ (by simp [KP.part]))
  sec := (h.sec.chg hc fun hm => h.apart 4 7 _ (by decide) (by simp [KP.part]) hm).chg hx (hD 4 (by decide) _ (by simp [KP.part]))
  cons := (h.cons.chg hc fun hm => h.apart 5 7 _ (by decide) (by simp [KP.part]) hm).chg hx (hD 5 (by decide) _ (by simp [KP.part]))
  tabs := own_chgD (own_chgD h.tabs hc fun g hg => own_blk (fun k hk hm => h.apart 6 7 k (by decide) hk hm) hg) hx fun g hg => own_blk (hD 6 (by decide)) hg
  inn := own_chgD ho hx fun g hg hm => hv (by simp at hm; exact hm ▸ Option.mem_toList.2 hg)
  out := own_chgD (own_chgD h.out hc fun g hg => own_blk (fun k hk hm => h.apart 8 7 k (by decide) hk hm) hg) hx fun g hg => own_blk (hD 8 (by decide)) hg
  wf := hw
  nd := h.nd
  ns := h.ns
  ncn := h.ncn
  apart := h.apart.swap (w := w) 7 h.lt hs hsw
  glo := (h.glo.chg hc fun k hk => h.high 7 k hk).chg hx fun k hk => by
   simp at hk
   exact hk ▸ h.high 0 b.a (by simp [KP.part])
  high := KP.high_swap (w := w) h.high 7 h.glo.size hs hsw }, ?_, KP.foot_sub 7 hs hsw⟩
 exact (hc.more (D' := p.foot b.a) fun k hk => .inl (KP.mem_part (i := 7) hk)).setCell _ _ (.inl (KP.mem_part (i := 0) (by simp [KP.part])))
theorem KB.outr (h : KB w b p s) {v : Value} {l : List Nat} {n : Nat} (hc : Chg w w4 p.ov.ownBlock.toList) (ho : w4.ownsRow 0 3 1 v n (ints l.reverse)) (hs : Sub v.ownBlock.toList p.ov.ownBlock.toList w) (hn : n = l.length) (hw : ({ s with ro := l } : KS).WF) :
 KB (w4.setCell ⟨b.a, 12, none⟩ v) b { p with ov := v } { s with ro := l } ∧ Chg w (w4.setCell ⟨b.a, 12, none⟩ v) (p.foot b.a) ∧ Sub (KP.foot b.a { p with ov := v }) (p.foot b.a) w := by
 have hx : Chg w4 (w4.setCell ⟨b.a, 12, none⟩ v) [b.a] := (Chg.refl w4 _).setCell _ _ (.inl (by simp))
 have hsw : ∀ j, j ≠ 8 → KP.part b.a { p with ov := v } j = p.part b.a j := fun i hi => by
  rcases i with _ | _ | _ | _ | _ | _ | _ | _ | _ | _ | i
  case succ.succ.succ.succ.succ.succ.succ.succ.zero => exact absurd rfl hi
  all_goals rfl
 have hb4 := h.blk.chg hc fun hm => h.apart 0 8 b.a (by decide) (by simp [KP.part]) hm
 have hv : b.a ∉ v.ownBlock.toList := fun hm => by
  rcases hs _ hm with h1 | h1
  · exact h.apart 0 8 b.a (by decide) (by simp [KP.part]) h1
  · have := h.blk.lt; omega
 have hD : ∀ i, i ≠ 0 → ∀ k ∈ p.part b.a i, k ∉ [b.a] := fun i hi k hk hm => h.apart i 0 k hi hk hm
 subst hn
 refine ⟨{
  bbq := h.bbq
  blk := hb4.set_ 12 v
  bld := (h.bld.chg hc fun k hk hm => h.apart 1 8 k (by decide) hk hm).chg hx (hD 1 (by decide))
  plan := (h.plan.chg hc (fun hm => h.apart 2 8 _ (by decide) (by simp [KP.part]) hm) fun k hk hm => h.apart 9 8 k (by decide) hk hm).chg hx (hD 2 (by decide) _ (by simp [KP.part])) (hD 9 (by decide))
  data := (h.data.chg hc fun hm => h.apart 3 8 _ (by decide) (by simp [KP.part]) hm).chg hx (hD 3 (by decide) _ (by simp [KP.part]))
  sec := (h.sec.chg hc fun hm => h.apart 4 8 _ (by decide) (by simp [KP.part]) hm).chg hx (hD 4 (by decide) _ (by simp [KP.part]))
  cons := (h.cons.chg hc fun hm => h.apart 5 8 _ (by decide) (by simp [KP.part]) hm).chg hx (hD 5 (by decide) _ (by simp [KP.part]))
  tabs := own_chgD (own_chgD h.tabs hc fun g hg => own_blk (fun k hk hm => h.apart 6 8 k (by decide) hk hm) hg) hx fun g hg => own_blk (hD 6 (by decide)) hg
  inn := own_chgD (own_chgD h.inn hc fun g hg => own_blk (fun k hk hm => h.apart 7 8 k (by decide) hk hm) hg) hx fun g hg => own_blk (hD 7 (by decide)) hg
  out := own_chgD ho hx fun g hg hm => hv (by simp at hm; exact hm ▸ Option.mem_toList.2 hg)
  wf := hw
  nd := h.nd
  ns := h.ns
  ncn := h.ncn
  apart := h.apart.swap (w := w) 8 h.lt hs hsw
  glo := (h.glo.chg hc fun k hk => h.high 8 k hk).chg hx fun k hk => by
   simp at hk
   exact hk ▸ h.high 0 b.a (by simp [KP.part])
  high := KP.high_swap (w := w) h.high 8 h.glo.size hs hsw }, ?_, KP.foot_sub 8 hs hsw⟩
 exact (hc.more (D' := p.foot b.a) fun k hk => .inl (KP.mem_part (i := 8) hk)).setCell _ _ (.inl (KP.mem_part (i := 0) (by simp [KP.part])))
end
section
variable {w : World} {b : MP} {s : KS} {F : List Nat}
theorem tabWF {s : KS} (h : s.WF) {a : Nat} (hu : s.rt.length + 1 ≤ s.used) : ({ s with rt := a :: s.rt, nt := s.nt + 1 } : KS).WF :=
 { h with nt := by show s.nt + 1 = s.rt.length + 1; rw [h.nt], rt := hu }
set_option maxRecDepth 100000 in
set_option maxHeartbeats 1000000 in
theorem table_calls (h : KR w b s F) (a : Nat) (hu : s.rt.length + 1 ≤ s.used) :
 Calls Tryz.prog 38 #[.pointer (some ⟨b.a, 0, none⟩), .int .i64 (a : Int)] w (MkP (.int .i64 (s.nt : Int)) (s.tab a) b F w) := by
 obtain ⟨i0, hi, hz0, hz1, hz2⟩ := info_parts info_int1
 obtain ⟨p, hp, hf, rfl⟩ := h
 have HP := hide hp
 have HF := hide hf
 have HU := hide hu
 have hnt : s.nt ≤ 2048 := by have := hp.wf.nt; have := hp.wf.rt; have := hp.wf.used; omega
 have c5 := hp.blk.cell' (i := 5) rfl
 have f5 := hp.blk.frozen 5
 have hlt := hp.blk.lt
 obtain ⟨A, c, hA⟩ := own_slice hp.tabs
 rw [hA] at c5
 have HA := hide hA
 have hw1 : wrap64 ((s.nt + 1 : Nat) - 1 : Int) = (s.nt : Int) := by unfold wrap64; omega
 clear hp hf hA hu
 go_enter Tryz.func38, Tryz.ntmps38
 go_wp2_with (at_builtin; refine wpList_append_lies _ rfl _ _ 27 rfl 0 3 i0 (.int .i64 0) 1 8 Tryz.underlying27 hi hz0 hz1 hz2 rfl (by decide) _ s.nt _ rfl (by rw [← HA.out]; exact own_chgD HP.out.tabs ((Chg.refl w []).alloc _) (by simp)) ⟨w.heap.size, 0, none⟩ 1 1 [.int .i64 (a : Int)] rfl rfl (by intro j u hj; match j, hj with | 0, hj => simp at hj; subst hj; simp [Addr.add]) (by intro u hu; simp at hu; subst hu; rfl) (by decide) (by unfold maxLen; omega) (by omega) (Nat.zero_le _) _ rfl ?_)
 intro g cap w4 hown hgr hg2 hg3
 rw [← HA.out] at hgr hg2
 have hc4 : Chg w w4 p.tv.ownBlock.toList := ((Chg.refl w p.tv.ownBlock.toList).alloc _).trans (Chg.of_grown (D := p.tv.ownBlock.toList) hgr (fun k hk => .inl (by simp [hk]))) (fun k hk => .inl hk)
 have hsub : Sub (Value.slice (some ⟨g, 0, none⟩) (s.nt + 1) cap).ownBlock.toList p.tv.ownBlock.toList w := fun k hk => by
  have hk : k = g := by simpa [Value.ownBlock] using hk
  subst hk
  rcases hg2 with h | h
  · exact .inl (Option.mem_toList.2 h)
  · exact .inr (by omega)
 have hx := HP.out.tabsr (l := a :: s.rt) hc4 (by rw [List.reverse_cons, ints_snoc]; exact hown) hsub (by have := HP.out.wf.nt; simp; omega) (tabWF HP.out.wf HU.out)
 have y5 := (HP.out.blk.chg hc4 fun hm => HP.out.apart 0 6 b.a (by decide) (by simp [KP.part]) hm).cell' (i := 5) rfl
 have g5 := (HP.out.blk.chg hc4 fun hm => HP.out.apart 0 6 b.a (by decide) (by simp [KP.part]) hm).frozen 5
 have hl4 := (HP.out.blk.chg hc4 fun hm => HP.out.apart 0 6 b.a (by decide) (by simp [KP.part]) hm).lt
 have HX := hide hx
 clear hown hgr hg2 hc4 hsub hx c5 f5
 go_wp2
 go_ret
 obtain ⟨h1, h2, h3⟩ := HX.out
 exact ⟨rfl, h2, _, h3, _, h1, HF.out, rfl⟩
theorem outWF {s : KS} (h : s.WF) {l : List Nat} (hu : s.ro.length + l.length ≤ 2048) : ({ s with ro := l.reverse ++ s.ro } : KS).WF :=
 { h with ro := by show (l.reverse ++ s.ro).length ≤ 2048; rw [List.length_append, List.length_reverse]; omega }
set_option maxRecDepth 100000 in
set_option maxHeartbeats 1000000 in
theorem answer_calls (h : KR w b s F) (l : List Nat) (ad : Addr) (c1 : Nat) (hl : 0 < l.length) (hn : ∀ j u, (ints l)[j]? = some u → w.cell? (ad.add j) = some u) (hu : s.ro.length + l.length ≤ 2048) :
 Calls Tryz.prog 17 #[.pointer (some ⟨b.a, 0, none⟩), .slice (some ad) l.length c1] w (MkP (.tuple #[]) (s.answer l) b F w) := by
 obtain ⟨i0, hi, hz0, hz1, hz2⟩ := info_parts info_int1
 obtain ⟨p, hp, hf, rfl⟩ := h
 have HP := hide hp
 have HF := hide hf
 have HU := hide hu
 have HN := hide hn
 have HL := hide hl
 have c5 := hp.blk.cell' (i := 12) rfl
 have f5 := hp.blk.frozen 12
 have hlt := hp.blk.lt
 obtain ⟨A, c, hA⟩ := own_slice hp.out
 rw [hA] at c5
 have HA := hide hA
 clear hp hf hA hu hn hl
 go_enter Tryz.func17, Tryz.ntmps17
 go_wp2_with (at_builtin; refine wpList_append_lies _ rfl _ _ 27 rfl 0 3 i0 (.int .i64 0) 1 8 Tryz.underlying27 hi hz0 hz1 hz2 rfl (by decide) _ s.ro.length _ rfl (by rw [← HA.out]; exact HP.out.out) ad l.length c1 (ints l) rfl (by rw [ints_len, Nat.mul_one]) HN.out (one_ints' l) HL.out (by have := HU.out; unfold maxLen; omega) (by have := HU.out; omega) (Nat.zero_le _) _ rfl ?_)
 intro g cap w4 hown hgr hg2 hg3
 rw [← HA.out] at hgr hg2
 have hc4 : Chg w w4 p.ov.ownBlock.toList := Chg.of_grown (D := p.ov.ownBlock.toList) hgr (fun k hk => .inl (by simp [hk]))
 have hsub : Sub (Value.slice (some ⟨g, 0, none⟩) (s.ro.length + l.length) cap).ownBlock.toList p.ov.ownBlock.toList w := fun k hk => by
  have hk : k = g := by simpa [Value.ownBlock] using hk
  subst hk
  rcases hg2 with h | h
  · exact .inl (Option.mem_toList.2 h)
  · exact .inr (by omega)
 have hx := HP.out.outr (l := l.reverse ++ s.ro) hc4 (by rw [List.reverse_append, List.reverse_reverse, ints_append]; exact hown) hsub (by simp; omega) (outWF HP.out.wf HU.out)
 have g5 := (HP.out.blk.chg hc4 fun hm => HP.out.apart 0 8 b.a (by decide) (by simp [KP.part]) hm).frozen 12
 have y5 := (HP.out.blk.chg hc4 fun hm => HP.out.apart 0 8 b.a (by decide) (by simp [KP.part]) hm).cell' (i := 12) rfl
 have hl4 := (HP.out.blk.chg hc4 fun hm => HP.out.apart 0 8 b.a (by decide) (by simp [KP.part]) hm).lt
 have HX := hide hx
 clear hown hgr hg2 hc4 hsub hx c5 f5
 go_wp2
 refine bodyPost_end (results_none rfl _ _ _) rfl ?_
 obtain ⟨h1, h2, h3⟩ := HX.out
 exact ⟨rfl, h2, _, h3, _, h1, HF.out, rfl⟩
end
end Go.Proofs.YthnhilghjadigaaGreatDoor

/- emit.Maker: Given. -/
namespace Go.Proofs.YthnhilghjadigaaGreatDoor
open Go Go.RowKit Go.Deep Go.Maps Go.Proofs.YthnhilghjadigaaGreatDoor.Ab Go.Proofs.YthnhilghjadigaaGreatDoor.Xi
set_option linter.unusedVariables false
attribute [local go_sem] Oper.semAt_some
theorem seqL_len : ∀ (n a : Nat), (seqL n a).length = n
 | 0, _ => rfl
 | n + 1, a => by show (seqL n (a + 1)).length + 1 = _; rw [seqL_len n]
theorem seqL_snoc : ∀ (n a : Nat), seqL (n + 1) a = seqL n a ++ [a + n]
 | 0, a => rfl
 | n + 1, a => by
  show a :: seqL (n + 1) (a + 1) = a :: (seqL n (a + 1) ++ [a + (n + 1)])
  rw [seqL_snoc n (a + 1), show a + 1 + n = a + (n + 1) by omega]
theorem givenWF {s : KS} (h : s.WF) {n : Nat} (h1 : 1 ≤ n) (hu : s.used + n ≤ 2048) (hn : s.names + 1 ≤ 100000) : ({ (s.room n true) with ri := (seqL n s.used).reverse ++ s.ri } : KS).WF :=
 { (show (s.room n true).WF from (roomWF (sec := true) h hn h1 hu).rs _) with
   ri := by
    show ((seqL n s.used).reverse ++ s.ri).length ≤ s.used + n
    rw [List.length_append, List.length_reverse, seqL_len]
    have := h.ri
    omega }
theorem own_cap {w : World} {base e n c : Nat} {A : Option Addr} {xs : List Value} (h : w.ownsRow base e 1 (.slice A n c) n xs) (h0 : 0 < n) : n ≤ c := by
 rcases h.2 with ⟨_, h1⟩ | ⟨g, cap, cur, h1, h2, h3, h4, _⟩
 · omega
 · injection h1 with e1 e2 e3
   subst e3
   exact h4
section
variable {w : World} {b : MP} {s : KS} {F : List Nat}
set_option maxRecDepth 100000 in
set_option maxHeartbeats 2000000 in
theorem given_calls2 (h : KR w b s F) (n : Nat) (h1 : 1 ≤ n) (hcan : s.can n = true) :
 Calls Tryz.prog 16 #[.pointer (some ⟨b.a, 0, none⟩), .int .i64 (n : Int)] w fun e w' => ∃ g c, e = .returned (.tuple #[.int .i64 (s.nt : Int), .slice (some ⟨g, 0, none⟩) n c]) ∧ Chg w w' F ∧ ∃ F', Sub F' F w ∧ KR w' b (s.given n) F' ∧ w.heap.size ≤ g ∧ g < w'.heap.size ∧ g ∉ F' ∧
  (∀ j u, (ints (seqL n s.used))[j]? = some u → w'.cell? ⟨g, j, none⟩ = some u) ∧ n ≤ c := by
 obtain ⟨i0, hi, hz0, hz1, hz2⟩ := info_parts info_int1
 obtain ⟨a1, a2, a3⟩ := can_iff hcan
 have hm := room_calls h n true h1 a1 (by omega)
 have A1 := hide a1
 have A2 := hide a2
 have H1 := hide h1
 have HK := hide h
 clear h a1 a2 a3 h1 hcan
 go_enter Tryz.func16, Tryz.ntmps16
 go_wp2_with (go_at_call 37; refine hm.mono ?_)
 rintro e w1 ⟨rfl, hc1, F1, hs1, hk1⟩
 have HC1 := hide hc1
 have HS1 := hide hs1
 have HK1 := hide hk1
 clear hc1 hs1 hk1 hm
 go_wp2
 go_loopw [7, 8, 13] (fun v _ i wr => ∃ k : Nat, k ≤ n ∧ i = .int .i64 k ∧ Hid (Chg w1 wr []) ∧ Hid (wr.ownsRow w1.heap.size 3 1 v k (ints (seqL k s.used)))) (fun _ _ i _ => n - (intOf i).toNat)
 case atStart => exact ⟨0, Nat.zero_le _, rfl, hide (Chg.refl _ _), hide (World.ownsRow_nil _ _ _ _)⟩
 case round =>
  obtain ⟨k, hk, rfl, HR, HO⟩ := hrel
  have q2 : n ≤ 2048 := by have := A1.out; omega
  by_cases hlt : k < n
  · have hw1 : wrap64 ((s.used : Int) + (k : Int)) = ((s.used + k : Nat) : Int) := by have := A1.out; unfold wrap64; omega
    have HW1 := hide hw1
    obtain ⟨A, c, rfl⟩ := own_slice HO.out
    clear hw1
    go_wp2_with (at_builtin; refine wpList_append_own _ rfl _ _ 27 rfl w1.heap.size 3 i0 (.int .i64 0) 1 8 Tryz.underlying27 hi hz0 hz1 hz2 rfl (by decide) _ k _ rfl (HO.out.alloc _) ⟨wr.heap.size, 0, none⟩ 1 1 [.int .i64 (wrap64 ((s.used : Int) + (k : Int)))] rfl rfl ?c1 ?c2 ?c3 ?c4 ?c5 ?_)
    case c1 =>
     intro j u hj
     match j, hj with
     | 0, hj => simp at hj; subst hj; simp [Addr.add]
    case c2 => intro u hu; simp at hu; subst hu; rfl
    case c3 => unfold maxLen; omega
    case c4 => omega
    case c5 => have := HR.out.size; simp; omega
    intro v' w4 hown' hgrow _
    rw [HW1.out] at hown'
    have HG : Hid (Chg w1 w4 []) := hide ((HR.out.alloc _).trans (D' := (Value.slice A k c).ownBlock.toList) (Chg.of_grown hgrow (fun k hk => .inl (by simp [hk]))) (fun k hk => .inr (HO.out.lt k (by simpa using hk)).1))
    have HO4 := hide hown'
    clear hown' hgrow
    go_wp2
    go_roundw
    case rel => exact ⟨k + 1, by omega, by go_num, HG, hide (by rw [seqL_snoc, ints_snoc]; exact HO4.out)⟩
    case measure => simp [intOf]; omega
  · have hk2 : k = n := by omega
    subst hk2
    obtain ⟨g, cap, rfl, hg1, hg2⟩ := HO.out.form (by have := H1.out; omega)
    have HCAP := hide (own_cap HO.out (by have := H1.out; omega))
    obtain ⟨p, hp, hf, hF1⟩ := HK1.out
    have hpr := hp.chg0 HR.out
    have HPR := hide hpr
    have HF := hide hf
    have HF1 := hide hF1
    have c11 := hpr.blk.cell' (i := 11) rfl
    have f11 := hpr.blk.frozen 11
    have hlb := hpr.blk.lt
    obtain ⟨A, c, hA⟩ := own_slice hpr.inn
    rw [hA] at c11
    have HA := hide hA
    have hnews : ∀ j u, (ints (seqL k s.used))[j]? = some u → wr.cell? ((⟨g, 0, none⟩ : Addr).add j) = some u := fun j u hj => by
     rw [add_plain, Nat.zero_add]
     have := HO.out.cells (g := g) rfl j u hj
     rwa [add_plain, Nat.zero_add] at this
    have HNEWS := hide hnews
    have hri : s.ri.length ≤ 2048 := by have := hp.wf.ri; have e1 : s.ri.length ≤ s.used + k := this; have := A1.out; omega
    have hgp : g ∉ p.foot b.a := fun hm => by have := hp.flt g hm; omega
    have HGP := hide hgp
    have HG1 := hide hg1
    clear hp hf hF1 hpr hA hnews hgp
    go_wp2_with (at_builtin; refine wpList_append_lies _ rfl _ _ 27 rfl 0 3 i0 (.int .i64 0) 1 8 Tryz.underlying27 hi hz0 hz1 hz2 rfl (by decide) _ s.ri.length _ rfl (by rw [← HA.out]; exact HPR.out.inn) ⟨g, 0, none⟩ k cap (ints (seqL k s.used)) rfl (by rw [ints_len, seqL_len, Nat.mul_one]) HNEWS.out (one_ints' _) (by have := H1.out; omega) (by unfold maxLen; omega) (by omega) (Nat.zero_le _) _ rfl ?_)
    intro g2 cap2 w4 hown hgr hg2' hg3
    rw [← HA.out] at hgr hg2'
    have hc4 : Chg wr w4 p.iv.ownBlock.toList := Chg.of_grown (D := p.iv.ownBlock.toList) hgr (fun k hk => .inl (by simp [hk]))
    have hsub : Sub (Value.slice (some ⟨g2, 0, none⟩) (s.ri.length + k) cap2).ownBlock.toList p.iv.ownBlock.toList wr := fun k hk => by
     have hk : k = g2 := by simpa [Value.ownBlock] using hk
     subst hk
     rcases hg2' with h | h
     · exact .inl (Option.mem_toList.2 h)
     · exact .inr (by omega)
    have hx := HPR.out.innr (l := (seqL k s.used).reverse ++ s.ri) hc4 (by rw [List.reverse_append, List.reverse_reverse, ints_append]; exact hown) hsub (by simp [seqL_len]; omega) (givenWF (HK.out.choose_spec.1.wf) H1.out A1.out (by have := A2.out; omega))
    have g11 := (HPR.out.blk.chg hc4 fun hm => HPR.out.apart 0 7 b.a (by decide) (by simp [KP.part]) hm).frozen 11
    have y11 := (HPR.out.blk.chg hc4 fun hm => HPR.out.apart 0 7 b.a (by decide) (by simp [KP.part]) hm).cell' (i := 11) rfl
    have hl4 := (HPR.out.blk.chg hc4 fun hm => HPR.out.apart 0 7 b.a (by decide) (by simp [KP.part]) hm).lt
    obtain ⟨hkb, hcx, hsx⟩ := hx
    have hkr : KR (w4.setCell ⟨b.a, 11, none⟩ (.slice (some ⟨g2, 0, none⟩) (s.ri.length + k) cap2)) b { (s.room k true) with ri := (seqL k s.used).reverse ++ s.ri } _ := ⟨_, hkb, HF.out, rfl⟩
    have htb := table_calls hkr s.used (by have := HK.out.choose_spec.1.wf.rt; have := H1.out; show s.rt.length + 1 ≤ s.used + k; omega)
    have HCX := hide hcx
    have HSX := hide hsx
    have hgn := far_sub hsx HGP.out hg2
    have HGN := hide hgn
    have HSZ := hide hg2
    have hgx : ∀ j u, (ints (seqL k s.used))[j]? = some u → (w4.setCell ⟨b.a, 11, none⟩ (.slice (some ⟨g2, 0, none⟩) (s.ri.length + k) cap2)).cell? ⟨g, j, none⟩ = some u := fun j u hj => by
     have := HNEWS.out j u hj
     rw [add_plain, Nat.zero_add] at this
     exact hcx.cell this HGP.out
    have HGX := hide hgx
    clear hown hgr hg2' hg3 hc4 hsub hkb hcx hsx hkr c11 f11 hgn hgx
    go_wp2_with (go_at_call 38; refine htb.mono ?_)
    intro e w5 hq
    obtain ⟨rfl, hc5, F5, hs5, hk5⟩ := hq
    have HC5 := hide hc5
    have HS5 := hide hs5
    have HK5 := hide hk5
    clear hc5 hs5 hk5 htb
    go_wp2
    go_ret2
    have hz1 := HC1.out.size
    have hz2 := HR.out.size
    have hz3 := HCX.out.size
    have hz4 := HC5.out.size
    have hF1e : F1 = p.foot b.a := HF1.out
    have hcA : Chg w wr F := HC1.out.trans HR.out (by simp)
    have hcB : Chg w (w4.setCell ⟨b.a, 11, none⟩ (.slice (some ⟨g2, 0, none⟩) (s.ri.length + k) cap2)) F := hcA.trans HCX.out (fun k hk => by
     rcases HS1.out k (hF1e ▸ hk) with h | h
     · exact .inl h
     · exact .inr h)
    refine ⟨g, cap, rfl, hcB.trans HC5.out (fun k hk => ?_), F5, fun k hk => ?_, HK5.out, by have := HG1.out; omega, by have := HSZ.out; omega, far_sub HS5.out HGN.out (by have := HSZ.out; omega), fun j u hj => HC5.out.cell (HGX.out j u hj) HGN.out, HCAP.out⟩
    · rcases HSX.out k hk with h | h
      · exact HS1.out k (hF1e ▸ h)
      · exact .inr (by omega)
    · rcases HS5.out k hk with h | h
      · rcases HSX.out k h with h | h
        · exact HS1.out k (hF1e ▸ h)
        · exact .inr (by omega)
      · exact .inr (by omega)
theorem given_calls (h : KR w b s F) (n : Nat) (h1 : 1 ≤ n) (hcan : s.can n = true) :
 Calls Tryz.prog 16 #[.pointer (some ⟨b.a, 0, none⟩), .int .i64 (n : Int)] w fun e w' => ∃ g c, e = .returned (.tuple #[.int .i64 (s.nt : Int), .slice (some ⟨g, 0, none⟩) n c]) ∧ Chg w w' F ∧ ∃ F', Sub F' F w ∧ KR w' b (s.given n) F' ∧ w.heap.size ≤ g ∧ g < w'.heap.size ∧ g ∉ F' ∧
  ∀ j u, (ints (seqL n s.used))[j]? = some u → w'.cell? ⟨g, j, none⟩ = some u :=
 (given_calls2 h n h1 hcan).mono fun e w' ⟨g, c, h1, h2, F', h3, h4, h5, h6, h7, h8, _⟩ => ⟨g, c, h1, h2, F', h3, h4, h5, h6, h7, h8⟩
end
end Go.Proofs.YthnhilghjadigaaGreatDoor

/- emit.New. -/
namespace Go.Proofs.YthnhilghjadigaaGreatDoor
open Go Go.RowKit Go.Deep Go.Maps Go.Proofs.YthnhilghjadigaaGreatDoor.Ab Go.Proofs.YthnhilghjadigaaGreatDoor.Xi
set_option linter.unusedVariables false
attribute [local go_sem] Oper.semAt_some
set_option maxRecDepth 100000 in
theorem pnew_calls (w : World) : Calls Tryz.prog 35 #[.int .i64 2048] w fun e w' => e = .returned (.tuple #[.pointer (some ⟨w.heap.size, 0, none⟩), .int .i64 0]) ∧ w' = w.alloc (.cells #[.int .i64 2048, .int .i64 0, .slice none 0 0, .bool true] 129) := by
 go_enter Tryz.func35, Tryz.ntmps35
 go_wp2
 go_ret2
 exact ⟨rfl, rfl⟩
theorem dataF_nil : dataF [] = fun _ => none := by
 funext k
 unfold dataF
 split <;> rfl
theorem consF_nil : consF [] = fun _ => none := by
 funext k
 unfold consF
 split <;> rfl
theorem ks0_WF : ks0.WF := ⟨rfl, by decide, by decide, by decide, by decide, rfl, by decide, by decide, by decide, by decide, by decide, by decide, by decide, by decide, by decide, by decide⟩
set_option maxRecDepth 100000 in
set_option maxHeartbeats 1000000 in
theorem mnew_calls (w : World) (hg : Glo w) : Calls Tryz.prog 15 #[] w fun e w' => ∃ b F, e = .returned (.pointer (some ⟨b.a, 0, none⟩)) ∧ Chg w w' [] ∧ KR w' b ks0 F ∧ ∀ k ∈ F, w.heap.size ≤ k := by
 have hp := pnew_calls w
 have hn := new_calls (w.alloc (.cells #[.int .i64 2048, .int .i64 0, .slice none 0 0, .bool true] 129))
 go_enter Tryz.func15, Tryz.ntmps15
 go_wp2_with (first | (go_at_call 35; refine hp.mono ?_; rintro e w1 ⟨rfl, rfl⟩) | (go_at_call 36; refine hn.mono ?_))
 rintro e w2 ⟨bb, FB, rfl, hc, hpb, hfb⟩
 have hz1 : (w.alloc (.cells #[.int .i64 2048, .int .i64 0, .slice none 0 0, .bool true] 129)).heap.size = w.heap.size + 1 := size_alloc _ _
 have hz2 := hc.size
 have hpl : PL w2 w.heap.size (.slice none 0 0) 0 [] := ⟨(Blk.new w 129 [.int .i64 2048, .int .i64 0, .slice none 0 0, .bool true]).chg hc (by simp), World.ownsRow_nil _ _ _ _⟩
 have HC := hide hc
 have HPB := hide hpb
 have HFB := hide hfb
 have HPL := hide hpl
 clear hc hpb hfb hpl hp hn
 have hmm := @run_makeMap Tryz.prog
 go_wp2
 go_ret
 clear hmm
 generalize hz : w2.heap.size = z at *
 have hFlt := HPB.out.lt
 have e1 : (w2.alloc (.map #[] 0)).heap.size = z + 1 := by rw [size_alloc, hz]
 have e2 : ((w2.alloc (.map #[] 0)).alloc (.map #[] 0)).heap.size = z + 1 + 1 := by rw [size_alloc, e1]
 have e3 : (((w2.alloc (.map #[] 0)).alloc (.map #[] 0)).alloc (.map #[] 0)).heap.size = z + 1 + 1 + 1 := by rw [size_alloc, e2]
 have m1 := (((MapL.made w2 3 21).alloc (.map #[] 0)).alloc (.map #[] 0)).alloc (.cells #[.pointer (some ⟨bb, 0, none⟩), .pointer (some ⟨w.heap.size, 0, none⟩), .map (some z), .map (some (z + 1)), .map (some (z + 1 + 1)), .slice none 0 0, .int .i64 0, .int .i64 0, .slice none 0 0, .slice none 0 0, .slice none 0 0, .slice none 0 0, .slice none 0 0] 86)
 have m2 := ((MapL.made (w2.alloc (.map #[] 0)) 3 4).alloc (.map #[] 0)).alloc (.cells #[.pointer (some ⟨bb, 0, none⟩), .pointer (some ⟨w.heap.size, 0, none⟩), .map (some z), .map (some (z + 1)), .map (some (z + 1 + 1)), .slice none 0 0, .int .i64 0, .int .i64 0, .slice none 0 0, .slice none 0 0, .slice none 0 0, .slice none 0 0, .slice none 0 0] 86)
 have m3 := (MapL.made ((w2.alloc (.map #[] 0)).alloc (.map #[] 0)) 21 3).alloc (.cells #[.pointer (some ⟨bb, 0, none⟩), .pointer (some ⟨w.heap.size, 0, none⟩), .map (some z), .map (some (z + 1)), .map (some (z + 1 + 1)), .slice none 0 0, .int .i64 0, .int .i64 0, .slice none 0 0, .slice none 0 0, .slice none 0 0, .slice none 0 0, .slice none 0 0] 86)
 rw [hz] at m1
 rw [e1] at m2
 rw [e2] at m3
 have bm := Blk.new (((w2.alloc (.map #[] 0)).alloc (.map #[] 0)).alloc (.map #[] 0)) 86 [.pointer (some ⟨bb, 0, none⟩), .pointer (some ⟨w.heap.size, 0, none⟩), .map (some z), .map (some (z + 1)), .map (some (z + 1 + 1)), .slice none 0 0, .int .i64 0, .int .i64 0, .slice none 0 0, .slice none 0 0, .slice none 0 0, .slice none 0 0, .slice none 0 0]
 rw [e3] at bm
 have hcA : Chg w2 ((((w2.alloc (.map #[] 0)).alloc (.map #[] 0)).alloc (.map #[] 0)).alloc (.cells #[.pointer (some ⟨bb, 0, none⟩), .pointer (some ⟨w.heap.size, 0, none⟩), .map (some z), .map (some (z + 1)), .map (some (z + 1 + 1)), .slice none 0 0, .int .i64 0, .int .i64 0, .slice none 0 0, .slice none 0 0, .slice none 0 0, .slice none 0 0, .slice none 0 0] 86)) [] := ((((Chg.refl w2 []).alloc _).alloc _).alloc _).alloc _
 have hcW := (((Chg.refl w []).alloc (.cells #[.int .i64 2048, .int .i64 0, .slice none 0 0, .bool true] 129)).trans HC.out (by simp)).trans hcA (by simp)
 generalize ((((w2.alloc (.map #[] 0)).alloc (.map #[] 0)).alloc (.map #[] 0)).alloc (.cells #[.pointer (some ⟨bb, 0, none⟩), .pointer (some ⟨w.heap.size, 0, none⟩), .map (some z), .map (some (z + 1)), .map (some (z + 1 + 1)), .slice none 0 0, .int .i64 0, .int .i64 0, .slice none 0 0, .slice none 0 0, .slice none 0 0, .slice none 0 0, .slice none 0 0] 86)) = w3 at *
 have hfl : ∀ k ∈ FB, w.heap.size + 1 ≤ k := fun k hk => by have := HFB.out k hk; rw [hz1] at this; exact this
 have hflt : ∀ k ∈ FB, k < z := fun k hk => by have := hFlt k hk; omega
 have hgz := hg.size
 let p : KP := ⟨bb, w.heap.size, z, z + 1, z + 1 + 1, .slice none 0 0, .slice none 0 0, .slice none 0 0, .slice none 0 0, FB, 0, 0, 0, fun _ => none⟩
 have hpart : ∀ i, ∀ k ∈ p.part (z + 1 + 1 + 1) i, (i = 0 ∧ k = z + 1 + 1 + 1) ∨ (i = 1 ∧ w.heap.size + 1 ≤ k ∧ k < z) ∨ (i = 2 ∧ k = w.heap.size) ∨ (i = 3 ∧ k = z) ∨ (i = 4 ∧ k = z + 1) ∨ (i = 5 ∧ k = z + 1 + 1) := by
  intro i k hk
  rcases i with _ | _ | _ | _ | _ | _ | _ | _ | _ | _ | i
  · simp [KP.part] at hk; omega
  · have h1 := hfl k hk; have h2 := hflt k hk; omega
  · simp [KP.part, p] at hk; omega
  · simp [KP.part, p] at hk; omega
  · simp [KP.part, p] at hk; omega
  · simp [KP.part, p] at hk; omega
  all_goals simp [KP.part, p, Value.ownBlock] at hk
 have hap : p.Apart (z + 1 + 1 + 1) := by
  intro i j k hij hi hj
  have h1 := hpart i k hi
  have h2 := hpart j k hj
  omega
 have hhi : ∀ i, ∀ k ∈ p.part (z + 1 + 1 + 1) i, w.heap.size ≤ k := fun i k hk => by
  have h1 := hpart i k hk
  omega
 refine ⟨⟨z + 1 + 1 + 1, bb⟩, p.foot (z + 1 + 1 + 1), rfl, hcW, ⟨p, ?_, fun a ha => absurd ha (Nat.not_lt_zero _), rfl⟩, fun k hk => ?_⟩
 · exact {
    bbq := rfl
    blk := bm
    bld := HPB.out.chg hcA (by simp)
    plan := HPL.out.chg hcA (by simp) (by simp)
    data := by rw [show ks0.data = [] from rfl, dataF_nil]; exact m1
    sec := m2
    cons := by rw [show ks0.cons = [] from rfl, consF_nil]; exact m3
    tabs := World.ownsRow_nil _ _ _ _
    inn := World.ownsRow_nil _ _ _ _
    out := World.ownsRow_nil _ _ _ _
    wf := ks0_WF
    nd := Nat.le_refl _
    ns := Nat.le_refl _
    ncn := Nat.le_refl _
    apart := hap
    glo := hg.chg hcW (by simp)
    high := fun i k hk => Nat.le_trans hgz (hhi i k hk) }
 · obtain ⟨i, hi⟩ := KP.of_foot hk
   exact hhi i k hi
end Go.Proofs.YthnhilghjadigaaGreatDoor

/- emit.Maker: Table, At. -/
namespace Go.Proofs.YthnhilghjadigaaGreatDoor
open Go Go.RowKit Go.Deep Go.Maps Go.Proofs.YthnhilghjadigaaGreatDoor.Ab Go.Proofs.YthnhilghjadigaaGreatDoor.Xi
set_option linter.unusedVariables false
attribute [local go_sem] Oper.semAt_some
theorem chk_lw1 {r a : Nat} (hr : r ≤ 31) (ha : a ≤ 2048) : chk 34 (r : Int) 1 0 (a : Int) = 0 := by
 rw [chk_iff]
 unfold Fits regOk
 simp
 omega
section
variable {w : World} {b : MP} {s : KS} {F : List Nat}
set_option maxRecDepth 100000 in
set_option maxHeartbeats 2000000 in
theorem mat_calls (h : KR w b s F) (t i a : Nat) (ht : s.rt.reverse[t]? = some a) (ha : a ≤ 2048) (hi : i ≤ 2048) (hcan : s.can 1 = true) :
 Calls Tryz.prog 286 #[.pointer (some ⟨b.a, 0, none⟩), .int .i64 (t : Int), .int .i64 (i : Int)] w (MkP (.int .i64 (s.used : Int)) (s.at_ t i) b F w) := by
 obtain ⟨a1, a2, a3⟩ := can_iff hcan
 have hm := KR.load h 1 i (by decide) hi (by omega)
 have hat : s.at_ t i = ((s.load 1 i).ins ⟨34, 2, 1, 0, (a : Nat)⟩).kept 2 true := by
  unfold KS.at_
  rw [List.getD_eq_getElem?_getD, ht]
  rfl
 rw [hat]
 have A1 := hide a1
 have A2 := hide a2
 have A3 := hide a3
 have HT := hide ht
 have htl : t < s.nt := by
  have := (List.getElem?_eq_some_iff.1 ht).1
  rw [List.length_reverse] at this
  have := h.choose_spec.1.wf.nt
  omega
 clear h hcan a1 a2 a3 hat ht
 go_enter Tryz.func286, Tryz.ntmps286
 go_wp2_with (go_at_call 293; refine hm.mono ?_)
 rintro e w1 ⟨rfl, hc1, F1, hs1, p, hp, hf, rfl⟩
 have c0 := hp.blk.cell' (i := 0) rfl
 have c5 := hp.blk.cell' (i := 5) rfl
 have hins := (hp.chg0 ((Chg.refl w1 []).drew)).ins ⟨34, 2, 1, 0, a⟩ (chk_lw1 (by decide) ha) (by have := A3.out; show s.nc + 1 ≤ _; omega)
 unfold insVal at hins
 obtain ⟨A, c, hA, hx⟩ := row_open (show w1.ownsRow 0 3 1 p.tv s.nt (ints s.rt.reverse) from hp.tabs)
 obtain ⟨g, rfl, hgl, hgb, hcells⟩ := hx (by omega)
 rw [hA] at c5
 have ct := hcells t (.int .i64 (a : Int)) (by unfold ints; rw [List.getElem?_map, HT.out]; rfl)
 have HC1 := hide hc1
 have HS1 := hide hs1
 have HF := hide hf
 clear hc1 hs1 hp hf hm hA hx hcells hgb hgl
 go_wp2_with fail
 go_still_tail 12, (by kernel_rfl)
 go_wp2_with fail
 refine hins.mono ?_
 rintro e w2 ⟨rfl, hc2, p2, hp2, hf2, hs2⟩
 have hk2 : KR w2 b ((s.load 1 i).ins ⟨34, 2, 1, 0, (a : Nat)⟩) (p2.foot b.a) := ⟨p2, hp2, hf2 ▸ HF.out, rfl⟩
 have hkp := kept_calls hk2 2 true (by decide) (by have := A1.out; exact this) (by have := A2.out; show s.names + 1 ≤ _; omega) (by have := A3.out; show s.nc + 2 ≤ _; omega)
 have HC2 := hide (HC1.out.trans hc2.from_drew (fun k hk => HS1.out k hk))
 have HS2 := hide (Sub.trans HS1.out hs2 HC1.out.size)
 clear hc2 hp2 hf2 hs2 hk2 hins c0 c5 ct
 go_wp2_with (go_at_call 294; refine hkp.mono ?_)
 intro e w3 hq
 obtain ⟨rfl, hc3, F3, hs3, hk3⟩ := MkP.trans HC2.out HS2.out hq
 have HC3 := hide hc3
 have HS3 := hide hs3
 have HK3 := hide hk3
 clear hq hc3 hs3 hk3 hkp
 go_wp2
 go_ret
 exact ⟨rfl, HC3.out, F3, HS3.out, HK3.out⟩
end
end Go.Proofs.YthnhilghjadigaaGreatDoor
