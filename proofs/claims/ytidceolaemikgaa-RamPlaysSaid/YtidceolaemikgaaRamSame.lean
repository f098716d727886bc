/- The walk of the reference's Same: whether two slices of words read as one list. -/
import Derived.Test.YtidceolaemikgaaRamRef
namespace Go.Proofs.Ytidceolaemikgaa
open Go.RowKit Go.Deep

theorem take_succ_eq {xs ys : List Int} {k : Nat} (hx : k < xs.length) (hy : k < ys.length) (h : xs.take k = ys.take k) (he : xs.getD k 0 = ys.getD k 0) : xs.take (k + 1) = ys.take (k + 1) := by
  rw [List.take_succ_eq_append_getElem hx, List.take_succ_eq_append_getElem hy, h]
  simp only [List.getD_eq_getElem?_getD, List.getElem?_eq_getElem hx, List.getElem?_eq_getElem hy, Option.getD_some] at he
  rw [he]
theorem ne_of_getD {xs ys : List Int} {k : Nat} (he : ¬ xs.getD k 0 = ys.getD k 0) : xs ≠ ys := fun h => he (by rw [h])

set_option maxHeartbeats 400000 in
theorem same_len (A B : Option Addr) (n m c d : Nat) (w : World) (h : ¬ n = m) :
    Calls Try.prog 15 #[.slice A n c, .slice B m d] w fun e w' => e = .returned (.bool false) ∧ w = w' := by
  have hq : (((n : Int)) != (m : Int)) = true := by rw [bne_iff_ne]; omega
  go_enter Try.func15, Try.ntmps15
  go_wp2
  go_ret
  exact ⟨rfl, rfl⟩

set_option maxHeartbeats 400000 in
theorem same_any (A B : Option Addr) (c d : Nat) (xs ys : List Int) (w : World) (ha : Sl w (.slice A xs.length c) (i32s xs)) (hb : Sl w (.slice B xs.length d) (i32s ys)) (hl : xs.length = ys.length) (hn : xs.length ≤ 3000) :
    Calls Try.prog 15 #[.slice A xs.length c, .slice B xs.length d] w fun e w' => e = .returned (.bool (decide (xs = ys))) ∧ ∃ k, w' = w.drewN k := by
  have HL := hide hl
  clear hl
  have HA := hide ha
  have HB := hide hb
  clear ha hb
  have hq : (((xs.length : Int)) != (xs.length : Int)) = false := by simp
  go_enter Try.func15, Try.ntmps15
  go_wp2
  go_loopw [5] (fun i wr => ∃ k : Nat, k ≤ xs.length ∧ i = .int .i64 k ∧ xs.take k = ys.take k ∧ ∃ m, wr = w.drewN m) (fun i _ => xs.length - (intOf i).toNat)
  case atStart => exact ⟨0, Nat.zero_le _, rfl, rfl, 0, rfl⟩
  case round =>
    obtain ⟨k, hk, rfl, ht, m, rfl⟩ := hrel
    have HT := hide ht
    clear ht
    by_cases hlt : k < xs.length
    · obtain ⟨b, off, rfl, hca, _⟩ := HA.out.at_ (i32s_at xs k hlt)
      obtain ⟨b', off', rfl, hcb, _⟩ := HB.out.at_ (i32s_at ys k (by have := HL.out; omega))
      by_cases he : xs.getD k 0 = ys.getD k 0
      · have HE := hide (take_succ_eq hlt (by have := HL.out; omega) HT.out he)
        rw [← he] at hcb
        clear he
        generalize xs.getD k 0 = x at *
        have hx : (x != x) = false := by simp
        go_wp2
        go_quiet (fail)
        go_wp2
        go_roundw
        case rel => exact ⟨k + 1, by omega, by go_num, HE.out, _, rfl⟩
        case measure => simp [intOf]; omega
      · have hx : (xs.getD k 0 != ys.getD k 0) = true := by rw [bne_iff_ne]; exact he
        have HE := hide (ne_of_getD he)
        clear he
        generalize xs.getD k 0 = x at *
        generalize ys.getD k 0 = y at *
        go_wp2
        go_quiet (fail)
        go_wp2
        go_ret
        exact ⟨ret_bool (decide_eq_false HE.out).symm, _, World.drewN_drewN _ _ _⟩
    · have hk' : k = xs.length := by omega
      have HK : Hid (xs = ys) := hide (by have h1 := HT.out; have h2 := HL.out; rw [hk', List.take_length, h2, List.take_length] at h1; exact h1)
      clear hk'
      go_wp2
      go_ret
      exact ⟨ret_bool (decide_eq_true HK.out).symm, _, rfl⟩

theorem refload_n (A : Option Addr) (n c : Nat) (ws : List Int) (a : Int) (w : World) (hl : n = ws.length) (hs : Sl w (.slice A n c) (i32s ws)) (hn : n ≤ 3000) (ha0 : -2147483648 ≤ a) (ha1 : a ≤ 2147483647) :
    Calls Try.prog 13 #[.slice A n c, .int .i32 a] w fun e w' => e = .returned (.tuple #[.int .i32 (ld ws a), .bool (inB ws a)]) ∧ w = w' := by
  subst hl; exact refload_any A c ws a w hs hn ha0 ha1
theorem refstore_no_n (A : Option Addr) (n c : Nat) (ws : List Int) (a x : Int) (w : World) (hl : n = ws.length) (hn : n ≤ 3000) (ha0 : -2147483648 ≤ a) (ha1 : a ≤ 2147483647) (h : inB ws a = false) :
    Calls Try.prog 10 #[.slice A n c, .int .i32 a, .int .i32 x] w fun e w' => e = .returned (.tuple #[.slice A n c, .bool false]) ∧ w = w' := by
  subst hl; exact refstore_no A c ws a x w hn ha0 ha1 h
theorem refstore_yes_n (A : Option Addr) (n c : Nat) (ws : List Int) (a x : Int) (w : World) (hl : n = ws.length) (hs : Sl w (.slice A n c) (i32s ws)) (hn : n ≤ 3000) (h : inB ws a = true) :
    Calls Try.prog 10 #[.slice A n c, .int .i32 a, .int .i32 x] w fun e w' => ∃ g c', e = .returned (.tuple #[.slice (some ⟨g, 0, none⟩) n c', .bool true]) ∧ Sl w' (.slice (some ⟨g, 0, none⟩) n c') (i32s (st ws a x)) ∧
      w.heap.size ≤ g ∧ Chg w w' [] := by
  subst hl
  have h' : 0 ≤ a ∧ a < ws.length := of_decide_eq_true h
  obtain ⟨i, rfl⟩ := Int.eq_ofNat_of_zero_le h'.1
  have e : st ws i x = ws.set i x := by unfold st; rw [if_pos h']; simp
  rw [e]
  exact refstore_yes A c ws i x w hs hn (by omega)
theorem same_n (A B : Option Addr) (n m c d : Nat) (xs ys : List Int) (w : World) (ha : Sl w (.slice A n c) (i32s xs)) (hb : Sl w (.slice B m d) (i32s ys)) (hx : n = xs.length) (hy : m = ys.length) (hl : n = m) (hn : n ≤ 3000) :
    Calls Try.prog 15 #[.slice A n c, .slice B m d] w fun e w' => e = .returned (.bool (decide (xs = ys))) ∧ ∃ k, w' = w.drewN k := by
  subst hl; subst hx
  exact same_any A B c d xs ys w ha hb hy hn

end Go.Proofs.Ytidceolaemikgaa
