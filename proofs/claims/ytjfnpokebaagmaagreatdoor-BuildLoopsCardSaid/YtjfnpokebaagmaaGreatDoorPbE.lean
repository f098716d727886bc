/- The program's builder: a number into a register. -/
import Derived.Test.YtjfnpokebaagmaaGreatDoorPbD
namespace Go.Proofs.YtjfnpokebaagmaaGreatDoor
open Go.RowKit Go.Deep Go.Maps
set_option linter.unusedVariables false
attribute [local go_sem] Oper.semAt_some
theorem regB_iff (d : Int) : regB d = true ↔ 0 ≤ d ∧ d ≤ 31 := by unfold regB; simp
theorem chk_addi {d a n : Int} (h : regB d = true) (ha : regB a = true) (h1 : -32768 ≤ n) (h2 : n ≤ 32767) : chk 31 d a 0 n = 0 := by
 rw [chk_iff]
 rw [regB_iff] at h ha
 unfold Fits regOk
 simp
 omega
theorem chk_ori {d a n : Int} (h : regB d = true) (ha : regB a = true) (h1 : 0 ≤ n) (h2 : n ≤ 65535) : chk 32 d a 0 n = 0 := by
 rw [chk_iff]
 rw [regB_iff] at h ha
 unfold Fits regOk
 simp
 omega
theorem chk_lui {d n : Int} (h : regB d = true) (h1 : 0 ≤ n) (h2 : n ≤ 65535) : chk 33 d 0 0 n = 0 := by
 rw [chk_iff]
 rw [regB_iff] at h
 unfold Fits regOk
 simp
 omega
theorem chk_blt {d a : Int} (h : regB d = true) (ha : regB a = true) : chk 38 d a 0 0 = 0 := by
 rw [chk_iff]
 rw [regB_iff] at h ha
 unfold Fits regOk
 simp
 omega
theorem GoP.mk2 {w w1 w2 : World} {e : Ending} {b : Nat} {F F1 : List Nat} {bm : BM} {r : Int} (h : Chg w w1 F) (hs : Sub F1 F w) (h2 : GoP (r, bm) b F1 w1 e w2) : GoP (r, bm) b F w e w2 := by
 obtain ⟨rfl, hc, F2, hs2, hp⟩ := h2
 refine ⟨rfl, h.trans hc (fun k hk => hs k hk), F2, fun k hk => ?_, hp⟩
 rcases hs2 k hk with h3 | h3
 · exact hs k h3
 · exact .inr (Nat.le_trans h.size h3)
theorem ins_ok_calls {w : World} {b : Nat} {bm : BM} {F : List Nat} (h : PB w b bm F) (i : Ins5) (hl : bm.code.length ≤ 1000000) (h0 : chkI i = 0) :
 Calls Tryz.prog 16 #[.pointer (some ⟨b, 0, none⟩), insVal i] w (GoP (0, { bm with code := bm.code ++ [i] }) b F w) := by
 have := ins_calls h i hl
 rw [insM_ok h0] at this
 exact this
theorem PB.live {w : World} {b : Nat} {bm : BM} {F : List Nat} (h : PB w b bm F) : Calls Tryz.prog 33 #[.pointer (some ⟨b, 0, none⟩)] w fun e w' => e = .returned (.bool true) ∧ w = w' := by
 obtain ⟨t, m, cv, uv, n, hp, _⟩ := h
 exact blive_calls hp
set_option maxRecDepth 100000 in
set_option maxHeartbeats 1000000 in
theorem set_calls {w : World} {b : Nat} {bm : BM} {F : List Nat} (h : PB w b bm F) (d n : Int) (hl : bm.code.length ≤ 900000) (hn1 : -2147483648 ≤ n) (hn2 : n ≤ 2147483647) :
 Calls Tryz.prog 12 #[.pointer (some ⟨b, 0, none⟩), .int .i64 d, .int .i32 n] w (GoP (setM bm d n) b F w) := by
 have hlv := h.live
 have hrg := fun W => reg_calls d W
 have HP := hide h
 cases hr : regB d with
 | false =>
  have e : setM bm d n = (6, bm) := by unfold setM; rw [if_pos hr]
  rw [e]
  rw [hr] at hrg
  clear h hr e
  go_enter Tryz.func12, Tryz.ntmps12
  go_wp2_with (first | (go_at_call 33; refine hlv.mono ?_; rintro e w1 ⟨rfl, rfl⟩) | (go_at_call 38; refine (hrg _).mono ?_; rintro e w1 ⟨rfl, rfl⟩))
  go_ret
  exact ⟨rfl, Chg.refl _ _, F, Sub.refl _ _, HP.out⟩
 | true =>
  have e : setM bm d n = (0, { bm with code := bm.code ++ setCode d n }) := by unfold setM; rw [if_neg (by rw [hr]; decide)]
  rw [e]
  by_cases hin : -32768 ≤ n ∧ n ≤ 32767
  · have e2 : setCode d n = [⟨31, d, 0, 0, n⟩] := by unfold setCode; rw [if_pos hin]
    rw [e2]
    obtain ⟨h1, h2⟩ := hin
    have hi := ins_ok_calls h ⟨31, d, 0, 0, n⟩ (by omega) (show chk 31 d 0 0 n = 0 from chk_addi hr (by decide) h1 h2)
    rw [hr] at hrg
    unfold insVal at hi
    clear h hr e e2
    go_enter Tryz.func12, Tryz.ntmps12
    go_wp2_with (first | (go_at_call 33; refine hlv.mono ?_; rintro e w1 ⟨rfl, rfl⟩) | (go_at_call 38; refine (hrg _).mono ?_; rintro e w1 ⟨rfl, rfl⟩))
    go_at_call 16
    refine hi.mono ?_
    rintro e w1 ⟨rfl, hc, F', hs, hp⟩
    go_wp2
    go_ret
    exact ⟨rfl, hc, F', hs, hp⟩
  · have e2 : setCode d n = [⟨33, d, 0, 0, n % 4294967296 / 65536⟩, ⟨32, d, d, 0, n % 65536⟩] := by unfold setCode; rw [if_neg hin]
    rw [e2]
    have hx : (decide (-32768 ≤ n) && decide (n ≤ 32767)) = false := by
     cases hb : (decide (-32768 ≤ n) && decide (n ≤ 32767)) with
     | false => rfl
     | true => simp at hb; exact absurd hb hin
    have hi := ins_ok_calls h ⟨33, d, 0, 0, n % 4294967296 / 65536⟩ (by omega) (show chk 33 d 0 0 (n % 4294967296 / 65536) = 0 from chk_lui hr (by omega) (by omega))
    have HR := hide hr
    rw [hr] at hrg
    unfold insVal at hi
    clear h hr e e2
    by_cases hlo : -32768 ≤ n
    · have hn3 : 32767 < n := by omega
      have hi : Calls Tryz.prog 16 #[.pointer (some ⟨b, 0, none⟩), .agg #[.int .i64 33, .int .i64 d, .int .i64 0, .int .i64 0, .int .i64 (n / 65536)]] w (GoP (0, { bm with code := bm.code ++ [⟨33, d, 0, 0, n % 4294967296 / 65536⟩] }) b F w) := by
       have en : n % 4294967296 = n := by omega
       rw [en] at hi ⊢
       exact hi
      go_enter Tryz.func12, Tryz.ntmps12
      go_wp2_with (first | (go_at_call 33; refine hlv.mono ?_; rintro e w1 ⟨rfl, rfl⟩) | (go_at_call 38; refine (hrg _).mono ?_; rintro e w1 ⟨rfl, rfl⟩))
      go_at_call 16
      refine hi.mono ?_
      rintro e w1 ⟨rfl, hc, F1, hs1, hp1⟩
      have hi2 := ins_ok_calls hp1 ⟨32, d, d, 0, n % 65536⟩ (by show (bm.code ++ [_]).length ≤ _; rw [List.length_append]; simp; omega) (show chk 32 d d 0 (n % 65536) = 0 from chk_ori HR.out HR.out (by omega) (by omega))
      have HC := hide hc
      have HS1 := hide hs1
      unfold insVal at hi2
      have eu : wrap64 (IntKind.u16.wrap n) = n % 65536 := by
       have e1 : IntKind.u16.wrap n = n % 65536 := by simp only [IntKind.wrap, IntKind.bits, IntKind.signed]; simp
       rw [e1]
       unfold wrap64
       omega
      have hi2 : Calls Tryz.prog 16 #[.pointer (some ⟨b, 0, none⟩), .agg #[.int .i64 32, .int .i64 d, .int .i64 d, .int .i64 0, .int .i64 (wrap64 (IntKind.u16.wrap n))]] w1 (GoP (0, { bm with code := bm.code ++ [(⟨33, d, 0, 0, n % 4294967296 / 65536⟩ : Ins5)] ++ [⟨32, d, d, 0, n % 65536⟩] }) b F1 w1) := by
       rw [eu]
       exact hi2
      clear hc hs1 hp1 hi eu
      go_wp2_with fail
      go_at_call 16
      refine hi2.mono ?_
      intro e w2 hgp
      have hG := GoP.mk2 HC.out HS1.out hgp
      have e3 : bm.code ++ [(⟨33, d, 0, 0, n % 4294967296 / 65536⟩ : Ins5)] ++ [⟨32, d, d, 0, n % 65536⟩] = bm.code ++ [⟨33, d, 0, 0, n % 4294967296 / 65536⟩, ⟨32, d, d, 0, n % 65536⟩] := by simp
      simp only [e3] at hG
      obtain ⟨rfl, hc2, F2, hs2, hp2⟩ := hG
      clear hgp hi2 e3
      go_wp2
      go_ret
      exact ⟨rfl, hc2, F2, hs2, hp2⟩
    · have hn3 : n < -32768 := by omega
      have hi : Calls Tryz.prog 16 #[.pointer (some ⟨b, 0, none⟩), .agg #[.int .i64 33, .int .i64 d, .int .i64 0, .int .i64 0, .int .i64 (n % 4294967296 / 65536)]] w (GoP (0, { bm with code := bm.code ++ [⟨33, d, 0, 0, n % 4294967296 / 65536⟩] }) b F w) := by
       exact hi
      go_enter Tryz.func12, Tryz.ntmps12
      go_wp2_with (first | (go_at_call 33; refine hlv.mono ?_; rintro e w1 ⟨rfl, rfl⟩) | (go_at_call 38; refine (hrg _).mono ?_; rintro e w1 ⟨rfl, rfl⟩))
      go_at_call 16
      refine hi.mono ?_
      rintro e w1 ⟨rfl, hc, F1, hs1, hp1⟩
      have hi2 := ins_ok_calls hp1 ⟨32, d, d, 0, n % 65536⟩ (by show (bm.code ++ [_]).length ≤ _; rw [List.length_append]; simp; omega) (show chk 32 d d 0 (n % 65536) = 0 from chk_ori HR.out HR.out (by omega) (by omega))
      have HC := hide hc
      have HS1 := hide hs1
      unfold insVal at hi2
      have eu : wrap64 (IntKind.u16.wrap n) = n % 65536 := by
       have e1 : IntKind.u16.wrap n = n % 65536 := by simp only [IntKind.wrap, IntKind.bits, IntKind.signed]; simp
       rw [e1]
       unfold wrap64
       omega
      have hi2 : Calls Tryz.prog 16 #[.pointer (some ⟨b, 0, none⟩), .agg #[.int .i64 32, .int .i64 d, .int .i64 d, .int .i64 0, .int .i64 (wrap64 (IntKind.u16.wrap n))]] w1 (GoP (0, { bm with code := bm.code ++ [(⟨33, d, 0, 0, n % 4294967296 / 65536⟩ : Ins5)] ++ [⟨32, d, d, 0, n % 65536⟩] }) b F1 w1) := by
       rw [eu]
       exact hi2
      clear hc hs1 hp1 hi eu
      go_wp2_with fail
      go_at_call 16
      refine hi2.mono ?_
      intro e w2 hgp
      have hG := GoP.mk2 HC.out HS1.out hgp
      have e3 : bm.code ++ [(⟨33, d, 0, 0, n % 4294967296 / 65536⟩ : Ins5)] ++ [⟨32, d, d, 0, n % 65536⟩] = bm.code ++ [⟨33, d, 0, 0, n % 4294967296 / 65536⟩, ⟨32, d, d, 0, n % 65536⟩] := by simp
      simp only [e3] at hG
      obtain ⟨rfl, hc2, F2, hs2, hp2⟩ := hG
      clear hgp hi2 e3
      go_wp2
      go_ret
      exact ⟨rfl, hc2, F2, hs2, hp2⟩
end Go.Proofs.YtjfnpokebaagmaaGreatDoor
