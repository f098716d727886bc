/- Builders that nobody made; lists of words. -/
import Derived.Test.YtjfnpokebaagmaaGreatDoorRbH
import Derived.Test.YtjfnpokebaagmaaGreatDoorPbG
namespace Go.Proofs.YtjfnpokebaagmaaGreatDoor
open Go.RowKit Go.Deep Go.Maps
set_option linter.unusedVariables false
attribute [local go_sem] Oper.semAt_some
def Dead (w : World) (v : Value) : Prop := v = .pointer none ∨ ∃ k, v = .pointer (some ⟨k, 0, none⟩) ∧ Blk w k 59 [.pointer none, .slice none 0 0]
theorem Dead.chg {w w' : World} {v : Value} (h : Dead w v) (hc : Chg w w' []) : Dead w' v := by
 rcases h with rfl | ⟨k, rfl, hb⟩
 · exact .inl rfl
 · exact .inr ⟨k, rfl, hb.chg hc (by simp)⟩
set_option maxRecDepth 100000 in
theorem dlive_calls {w : World} {v : Value} (h : Dead w v) : Calls Tryz.prog 33 #[v] w fun e w' => e = .returned (.bool false) ∧ w = w' := by
 rcases h with rfl | ⟨k, rfl, hb⟩
 · go_enter Tryz.func33, Tryz.ntmps33
   go_wp2
   go_ret
   exact ⟨rfl, rfl⟩
 · have c0 := hb.cell' (i := 0) rfl
   clear hb
   go_enter Tryz.func33, Tryz.ntmps33
   go_wp2
   go_ret
   exact ⟨rfl, rfl⟩
set_option maxRecDepth 100000 in
theorem dloop_calls {w : World} {v : Value} (h : Dead w v) (c l n : Int) (s f : Value) : Calls Tryz.prog 13 #[v, .int .i64 c, .int .i64 l, .int .i64 n, s, f] w fun e w' => e = .returned (.int .i64 1) ∧ w = w' := by
 have hl := dlive_calls h
 clear h
 go_enter Tryz.func13, Tryz.ntmps13
 go_wp2_with (go_at_call 33; refine hl.mono ?_; rintro e w1 ⟨rfl, rfl⟩)
 go_ret
 exact ⟨rfl, rfl⟩
set_option maxRecDepth 100000 in
theorem dfinish_calls {w : World} {v : Value} (h : Dead w v) : Calls Tryz.prog 8 #[v] w fun e w' => e = .returned (.tuple #[.slice none 0 0, .string ⟨#[]⟩, .int .i64 1]) ∧ w = w' := by
 have hl := dlive_calls h
 clear h
 go_enter Tryz.func8, Tryz.ntmps8
 go_wp2_with (go_at_call 33; refine hl.mono ?_; rintro e w1 ⟨rfl, rfl⟩)
 refine bodyPost_ret (results_tmp3 rfl _ _ _) rfl ?_
 exact ⟨rfl, rfl⟩
set_option maxRecDepth 100000 in
theorem dins_calls {w : World} {v : Value} (h : Dead w v) (i : Ins5) : Calls Tryz.prog 16 #[v, insVal i] w fun e w' => e = .returned (.int .i64 1) ∧ Chg w w' [] := by
 obtain ⟨op, d, a, b, n⟩ := i
 have hl := dlive_calls (h.chg ((Chg.refl w []).alloc (.cells #[.int .i64 op, .int .i64 d, .int .i64 a, .int .i64 b, .int .i64 n] 25)))
 clear h
 unfold insVal
 go_enter Tryz.func16, Tryz.ntmps16
 go_wp2_with (go_at_call 33; refine hl.mono ?_; rintro e w1 ⟨rfl, rfl⟩)
 go_ret
 exact ⟨rfl, (Chg.refl w []).alloc _⟩
set_option maxRecDepth 100000 in
theorem dlabel_calls {w : World} {v : Value} (h : Dead w v) (s : Value) : Calls Tryz.prog 23 #[v, s] w fun e w' => e = .returned (.int .i64 1) ∧ w = w' := by
 have hl := dlive_calls h
 clear h
 go_enter Tryz.func23, Tryz.ntmps23
 go_wp2_with (go_at_call 33; refine hl.mono ?_; rintro e w1 ⟨rfl, rfl⟩)
 go_ret
 exact ⟨rfl, rfl⟩
set_option maxRecDepth 100000 in
theorem dgo_calls {w : World} {v : Value} (h : Dead w v) (op d a : Int) (s : Value) : Calls Tryz.prog 24 #[v, .int .i64 op, .int .i64 d, .int .i64 a, s] w fun e w' => e = .returned (.int .i64 1) ∧ Chg w w' [] := by
 have hck := check_any op d a 0 0 (w.alloc (.cells #[.int .i64 op, .int .i64 d, .int .i64 a, .int .i64 0, .int .i64 0] 25))
 have H := hide h
 clear h
 unfold insV at hck
 generalize chk op d a 0 0 = e0 at *
 go_enter Tryz.func24, Tryz.ntmps24
 go_wp2_with fail
 go_at_call 40
 refine hck.mono ?_
 rintro e w1 ⟨rfl, hc⟩
 have hc0 : Chg w w1 [] := ((Chg.refl w []).alloc _).trans hc (by simp)
 have hl := dlive_calls (H.out.chg hc0)
 have HC := hide hc0
 clear hc hc0 hck
 go_wp2_with (go_at_call 33; refine hl.mono ?_; rintro e w2 ⟨rfl, rfl⟩)
 go_ret
 exact ⟨rfl, HC.out⟩
set_option maxRecDepth 100000 in
theorem dset_calls {w : World} {v : Value} (h : Dead w v) (d n : Int) : Calls Tryz.prog 12 #[v, .int .i64 d, .int .i32 n] w fun e w' => e = .returned (.int .i64 1) ∧ w = w' := by
 have hl := dlive_calls h
 clear h
 go_enter Tryz.func12, Tryz.ntmps12
 go_wp2_with (go_at_call 33; refine hl.mono ?_; rintro e w1 ⟨rfl, rfl⟩)
 go_ret
 exact ⟨rfl, rfl⟩
set_option maxRecDepth 100000 in
theorem dlen_calls {w : World} {v : Value} (h : Dead w v) : Calls Tryz.prog 11 #[v] w fun e w' => e = .returned (.int .i64 0) ∧ w = w' := by
 have hl := dlive_calls h
 clear h
 go_enter Tryz.func11, Tryz.ntmps11
 go_wp2_with (go_at_call 33; refine hl.mono ?_; rintro e w1 ⟨rfl, rfl⟩)
 go_ret
 exact ⟨rfl, rfl⟩
theorem u32s_len (l : List Int) : (u32s l).length = l.length := by simp [u32s]
theorem u32s_at (l : List Int) (k : Nat) (h : k < l.length) : (u32s l)[k]? = some (.int .u32 l[k]) := by simp [u32s, h]
set_option maxRecDepth 100000 in
set_option maxHeartbeats 1000000 in
theorem words_calls {w : World} {va vb : Value} (l : List Int) (hl : l.length ≤ 1000000) (ha : Sl w va (u32s l)) (hb : Sl w vb (u32s l)) :
 Calls Tryz.prog 10 #[va, vb] w fun e w' => e = .returned (.bool true) ∧ Chg w w' [] := by
 have HA := hide ha
 have HB := hide hb
 obtain ⟨Aa, ca, rfl, _, _⟩ := ha
 obtain ⟨Ab, cb, rfl, _, _⟩ := hb
 rw [u32s_len] at HA HB ⊢
 have hz : ((l.length : Int) != (l.length : Int)) = false := by simp
 go_enter Tryz.func10, Tryz.ntmps10
 go_wp2
 go_loopw [5] (fun i wr => ∃ k : Nat, k ≤ l.length ∧ i = .int .i64 k ∧ Hid (Chg w wr [])) (fun i _ => l.length - (intOf i).toNat)
 case atStart => exact ⟨0, Nat.zero_le _, rfl, hide (Chg.refl _ _)⟩
 case round =>
  obtain ⟨k, hk, rfl, HR⟩ := hrel
  by_cases hlt : k < l.length
  · have hlt' : decide ((k : Int) < (l.length : Int)) = true := by simpa using hlt
    obtain ⟨b1, o1, rfl, hc1, _⟩ := (HA.out.keep HR.out).at_ (u32s_at l k hlt)
    obtain ⟨b2, o2, rfl, hc2, _⟩ := (HB.out.keep HR.out).at_ (u32s_at l k hlt)
    generalize l[k] = z at *
    have hzz : (z != z) = false := by simp
    go_wp2
    go_quiet (fail)
    go_wp2
    go_roundw
    case rel => exact ⟨k + 1, by omega, by go_num, hide (HR.out.drewN _)⟩
    case measure => simp [intOf]; omega
  · have hlt' : decide ((k : Int) < (l.length : Int)) = false := by simpa using hlt
    go_wp2
    go_ret
    exact ⟨rfl, HR.out⟩
end Go.Proofs.YtjfnpokebaagmaaGreatDoor
