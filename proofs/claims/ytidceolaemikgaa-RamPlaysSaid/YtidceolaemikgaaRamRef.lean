/- The walks of the reference of layer 15: what Load, Store and Same answer; and of a memory that nobody made. -/
import Derived.Test.YtidceolaemikgaaRam
namespace Go.Proofs.Ytidceolaemikgaa
open Go.RowKit Go.Deep

set_option maxHeartbeats 400000 in
theorem refload_any (A : Option Addr) (c : Nat) (ws : List Int) (a : Int) (w : World) (hs : Sl w (.slice A ws.length c) (i32s ws)) (_hn : ws.length ≤ 3000) (ha0 : -2147483648 ≤ a) (ha1 : a ≤ 2147483647) :
    Calls Try.prog 13 #[.slice A ws.length c, .int .i32 a] w fun e w' => e = .returned (.tuple #[.int .i32 (ld ws a), .bool (inB ws a)]) ∧ w = w' := by
  by_cases h0 : a < 0
  · have e1 : ld ws a = 0 := by unfold ld; rw [if_neg (by omega)]
    have e2 : inB ws a = false := by unfold inB; simp; omega
    rw [e1, e2]
    clear hs
    go_enter Try.func13, Try.ntmps13
    go_wp2
    go_ret2
    exact ⟨rfl, rfl⟩
  · by_cases h1 : a < ws.length
    · obtain ⟨i, rfl⟩ := Int.eq_ofNat_of_zero_le (show 0 ≤ a by omega)
      have e1 : ld ws i = ws.getD i 0 := by unfold ld; rw [if_pos (by omega)]; simp
      have e2 : inB ws i = true := by unfold inB; simp; omega
      rw [e1, e2]
      have hi : i < ws.length := by omega
      obtain ⟨b, off, rfl, hci, _⟩ := hs.at_ (i32s_at ws i hi)
      generalize ws.getD i 0 = x at *
      clear h1
      go_enter Try.func13, Try.ntmps13
      go_wp2
      go_ret2
      exact ⟨rfl, rfl⟩
    · have e1 : ld ws a = 0 := by unfold ld; rw [if_neg (by omega)]
      have e2 : inB ws a = false := by unfold inB; simp; omega
      rw [e1, e2]
      clear hs
      go_enter Try.func13, Try.ntmps13
      go_wp2
      go_ret2
      exact ⟨rfl, rfl⟩

set_option maxHeartbeats 400000 in
theorem refstore_no (A : Option Addr) (c : Nat) (ws : List Int) (a x : Int) (w : World) (_hn : ws.length ≤ 3000) (_ha0 : -2147483648 ≤ a) (_ha1 : a ≤ 2147483647) (h : inB ws a = false) :
    Calls Try.prog 10 #[.slice A ws.length c, .int .i32 a, .int .i32 x] w fun e w' => e = .returned (.tuple #[.slice A ws.length c, .bool false]) ∧ w = w' := by
  unfold inB at h
  have h := of_decide_eq_false h
  by_cases h0 : a < 0
  · clear h
    go_enter Try.func10, Try.ntmps10
    go_wp2
    go_ret2
    exact ⟨rfl, rfl⟩
  · have h1 : ¬ a < ws.length := by omega
    clear h
    go_enter Try.func10, Try.ntmps10
    go_wp2
    go_ret2
    exact ⟨rfl, rfl⟩

set_option maxHeartbeats 400000 in
theorem refstore_yes (A : Option Addr) (c : Nat) (ws : List Int) (i : Nat) (x : Int) (w : World) (hs : Sl w (.slice A ws.length c) (i32s ws)) (hn : ws.length ≤ 3000) (h : i < ws.length) :
    Calls Try.prog 10 #[.slice A ws.length c, .int .i32 i, .int .i32 x] w fun e w' => ∃ g c', e = .returned (.tuple #[.slice (some ⟨g, 0, none⟩) ws.length c', .bool true]) ∧ Sl w' (.slice (some ⟨g, 0, none⟩) ws.length c') (i32s (ws.set i x)) ∧
      w.heap.size ≤ g ∧ Chg w w' [] := by
  obtain ⟨i0, hi0, hz0, hz1, hz2⟩ := info_parts info_i32
  have h63 : 0 + (i32s ws).length ≤ maxLen := by simp [maxLen]; omega
  have hby : (0 + (i32s ws).length) * 4 ≤ 140737488355328 := by simp; omega
  have hpos : 0 < 0 + (i32s ws).length := by simp; omega
  go_enter Try.func10, Try.ntmps10
  go_wp2_with (at_builtin; refine wpList_append_sl rfl (.tmp 19) (.tmp 20) 22 rfl w.heap.size 21 i0 (.int .i32 0) 4 Try.underlying22 hi0 hz0 hz1 hz2 rfl (.slice none 0 0) 0 [] rfl (World.ownsRow_nil _ _ _ _) (.slice A ws.length c) (i32s ws) rfl hs (one_i32s _) h63 hby (Nat.le_refl _) ?_; intro v1 w1 hown hgr hat; obtain ⟨g, cap, rest, rfl, hg, hblk, hcap⟩ := own_form hown hpos; rw [List.nil_append] at hblk; have hci : w1.cell? ⟨g, i, none⟩ = some (.int .i32 (ws.getD i 0)) := (hblk.cell i).trans ((List.getElem?_append_left (by simpa using h)).trans (i32s_at _ _ h)); have hfi := hblk.frozen i; generalize ws.getD i 0 = x0 at hci)
  go_ret2
  have hc : Chg w w1 [] := Chg.of_grown hgr (by simp [Value.ownBlock])
  rw [i32s_set]
  exact ⟨g, cap, rfl, Sl.set_front hblk (by simp) (by simpa using hcap) h, hg, hc.setCell _ _ (.inr hg)⟩

end Go.Proofs.Ytidceolaemikgaa
