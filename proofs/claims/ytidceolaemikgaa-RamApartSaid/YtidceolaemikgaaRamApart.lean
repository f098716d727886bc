/- The walk of the law RamApart: what is handed in, and what is answered, is memory of its own. -/
import Derived.Test.YtidceolaemikgaaRamAwake
namespace Go.Proofs.Ytidceolaemikgaa
open Go.RowKit Go.Deep

set_option maxHeartbeats 400000 in
theorem apart_no (A : Option Addr) (n c : Nat) (a x : Int) (w : World) (hn : n ≤ maxLen) (h : 2048 < n ∨ a < 0 ∨ (n : Int) ≤ a) (ha0 : -2147483648 ≤ a) (ha1 : a ≤ 2147483647) :
    Calls Try.prog 4 #[.slice A n c, .int .i32 a, .int .i32 x] w fun e w' => e = .returned (.bool true) ∧ Chg w w' [] := by
  unfold maxLen at hn
  by_cases h1 : 2048 < n
  · clear h
    go_enter Try.func4, Try.ntmps4
    go_wp2_with (go_at_call 8; refine (awake15 _).mono ?_; rintro e w1 ⟨rfl, hc⟩)
    go_ret
    exact ⟨rfl, hc⟩
  · by_cases h2 : a < 0
    · clear h
      go_enter Try.func4, Try.ntmps4
      go_wp2_with (go_at_call 8; refine (awake15 _).mono ?_; rintro e w1 ⟨rfl, hc⟩)
      go_ret
      exact ⟨rfl, hc⟩
    · have h3 : ¬ a < (n : Int) := by omega
      clear h
      go_enter Try.func4, Try.ntmps4
      go_wp2_with (go_at_call 8; refine (awake15 _).mono ?_; rintro e w1 ⟨rfl, hc⟩)
      go_ret
      exact ⟨rfl, hc⟩

set_option maxHeartbeats 1000000 in
theorem apart_yes (A : Option Addr) (c : Nat) (ws : List Int) (i : Nat) (x : Int) (w : World) (hs : Sl w (.slice A ws.length c) (i32s ws)) (hn : ws.length ≤ 2048) (hi : i < ws.length) :
    Calls Try.prog 4 #[.slice A ws.length c, .int .i32 i, .int .i32 x] w fun e w' => e = .returned (.bool true) ∧ Chg w w' [] := by
  obtain ⟨i0, hi0, hz0, hz1, hz2⟩ := info_parts info_i32
  have h63 : 0 + (i32s ws).length ≤ maxLen := by simp [maxLen]; omega
  have hby : (0 + (i32s ws).length) * 4 ≤ 140737488355328 := by simp; omega
  have hpos : 0 < 0 + (i32s ws).length := by simp; omega
  obtain ⟨ab, aoff, hA, hcA, hab⟩ := hs.at_ (i32s_at ws i hi)
  subst hA
  go_enter Try.func4, Try.ntmps4
  go_wp2_with (at_builtin; refine wpList_append_sl rfl (.tmp 29) (.tmp 30) 22 rfl w.heap.size 21 i0 (.int .i32 0) 4 Try.underlying22 hi0 hz0 hz1 hz2 rfl (.slice none 0 0) 0 [] rfl (World.ownsRow_nil _ _ _ _) (.slice (some ⟨ab, aoff, none⟩) ws.length c) (i32s ws) rfl hs (one_i32s _) h63 hby (Nat.le_refl _) ?_; intro v1 w1 hown hgr hat; obtain ⟨g, cap, rest, rfl, hg, hblk, hcap⟩ := own_form hown hpos; rw [List.nil_append] at hblk; rw [Nat.zero_add, length_i32s] at hcap)
  have hc : Chg w w1 [] := Chg.of_grown hgr (by simp [Value.ownBlock])
  have hso : Sl w1 (.slice (some ⟨g, 0, none⟩) ws.length cap) (i32s ws) := Sl.front hblk (by simp) hcap
  replace hs := hs.keep hc
  clear hat hgr hown h63 hby hpos
  have hcs1 := hc.size
  go_wp2_with fail
  refine (new_any _ _ ws _ hn hso).mono ?_
  rintro e w2 ⟨b, r, rfl, hr, hb, hr', hc2⟩
  have hgr : g ≠ r := by have := hblk.lt; omega
  have hgb : g ≠ b := by have := hblk.lt; omega
  have habr : ab ≠ r := by have := hc.size; omega
  have habb : ab ≠ b := by have := hc.size; omega
  replace hblk := hblk.chg hc2 (by simp)
  replace hs := hs.keep hc2
  replace hc := hc.trans hc2 (by simp)
  replace hcA := hc.cell hcA (by simp)
  clear hc2 hso
  have hco : w2.cell? ⟨g, i, none⟩ = some (.int .i32 (ws.getD i 0)) := (hblk.cell i).trans ((List.getElem?_append_left (by simpa using hi)).trans (i32s_at _ _ hi))
  have hin : inB ws i = true := by unfold inB; simp; omega
  have HS := hide hs
  clear hs
  generalize hy : ws.getD i 0 = y at *
  have HY := hide hy
  clear hy
  have hyy : (y != y) = false := by simp
  have Hin := hide hin
  clear hin
  have hcsz : w.heap.size ≤ w1.heap.size := hcs1
  have HC := hide hc
  clear hc
  have HR := hide hr
  clear hr
  have HB := hide hblk
  clear hblk
  go_wp2_with fail
  have kr : ∀ k, k ≠ r → k ∉ [r] := by simp
  go_region_held3 (fun w' => w'.cell? ⟨g, i, none⟩ = some (.int .i32 y) ∧ w'.cell? ⟨ab, aoff + i, none⟩ = some (.int .i32 y)) (first | exact ⟨hco, hcA⟩ | exact ⟨hc3.cell hco (kr _ hgr), hc3.cell hcA (kr _ habr)⟩)
    (first | (go_at_call 11; refine (store_any b r ws i x _ (IsRam.drew HR.out) (by omega) (by omega)).mono ?_; rintro e w3 ⟨he, hr3, hc3⟩; rw [Hin.out] at he; subst he))
  replace HC := hide (HC.out.trans hc3.from_drew (by intro k hk; simp at hk; subst hk; right; have h1 := hr'; have h2 := hcsz; omega))
  have HS3 := hide (HS.out.chg hc3.from_drew (by intro A n c e; injection e with e _ _; injection e with e; subst e; exact kr _ habr))
  have HB3 := hide (HB.out.chg hc3.from_drew (kr _ hgr))
  have HR3 := hide hr3
  have hcw := hc3.cell hcA (kr _ habr)
  clear HS HB HR hr3 hc3 hco hcA
  have hzl := length_st ws i x
  have hld := ld_st ws i x hi
  have hin2 : inB (st ws i x) i = true := (inB_st ws i i x).trans Hin.out
  have hback : (i32s (st ws i x)).set i (.int .i32 y) = i32s ws := by
    have h1 := back_st ws i x hi
    rw [HY.out] at h1
    rw [← i32s_set, h1]
  generalize st ws i x = zs at *
  have Hld := hide hld
  have Hin2 := hide hin2
  have Hzl := hide hzl
  have Hback := hide hback
  clear hld hin2 hzl hback
  go_wp2_with fail
  refine (all_any b r zs _ HR3.out).mono ?_
  rintro e w4 ⟨q, rfl, hq, hqge, hc4⟩
  rw [Hzl.out]
  have hcq : w4.cell? ⟨q, i, none⟩ = some (.int .i32 (zs.getD i 0)) := hq.cell' (i32s_at _ _ (by have := Hzl.out; omega))
  have hfq := hq.frozen i
  have hcg : w4.cell? ⟨g, i, none⟩ = some (.int .i32 (ws.getD i 0)) := ((HB3.out.chg hc4 (by simp)).cell i).trans ((List.getElem?_append_left (by simpa using hi)).trans (i32s_at _ _ hi))
  have hfg := (HB3.out.chg hc4 (by simp)).frozen i
  have hqlt := hq.lt
  have hgq : g ≠ q := by have := HB3.out.lt; omega
  have hbq : b ≠ q := by have := HR3.out.head.lt; omega
  have hrq : r ≠ q := by have := HR3.out.row.lt; omega
  have habq : ab ≠ q := by have := HC.out.size; omega
  have hcg2 : ∀ u, (w4.setCell ⟨q, i, none⟩ u).cell? ⟨g, i, none⟩ = some (.int .i32 (ws.getD i 0)) := fun u => (World.cell?_of_block (heap_setCell_far w4 _ u g hgq)).trans hcg
  have hfg2 : ∀ u, (w4.setCell ⟨q, i, none⟩ u).frozen? ⟨g, i, none⟩ = false := fun u => (World.frozen?_of_block (heap_setCell_far w4 _ u g hgq)).trans hfg
  clear hcg hfg
  generalize zs.getD i 0 = z1 at hcq
  generalize ws.getD i 0 = z2 at hcg2
  go_wp2_with fail
  have hr5 : IsRam ((w4.setCell ⟨q, i, none⟩ (.int .i32 (wrap32 (x + 1)))).setCell ⟨g, i, none⟩ (.int .i32 (wrap32 (x + 2)))) b r zs :=
    (HR3.out.chg hc4 (by simp) (by simp)).chg (D := [q, g]) (((Chg.refl w4 [q, g]).setCell _ _ (by simp)).setCell _ _ (by simp)) (by simp [hbq, hgb.symm]) (by simp [hrq, hgr.symm])
  have hc5 : Chg w ((w4.setCell ⟨q, i, none⟩ (.int .i32 (wrap32 (x + 1)))).setCell ⟨g, i, none⟩ (.int .i32 (wrap32 (x + 2)))) [] :=
    ((HC.out.trans hc4 (by simp)).setCell ⟨q, i, none⟩ _ (.inr (show w.heap.size ≤ q by have := HC.out.size; omega))).setCell ⟨g, i, none⟩ _ (.inr hg)
  have hcw5 : ((w4.setCell ⟨q, i, none⟩ (.int .i32 (wrap32 (x + 1)))).setCell ⟨g, i, none⟩ (.int .i32 (wrap32 (x + 2)))).cell? ⟨ab, aoff + i, none⟩ = some (.int .i32 y) :=
    Chg.cell (D := [q, g]) (((Chg.refl w4 [q, g]).setCell _ _ (by simp)).setCell _ _ (by simp)) (hc4.cell hcw (by simp)) (by simp [habq]; omega)
  have hs5 : Sl ((w4.setCell ⟨q, i, none⟩ (.int .i32 (wrap32 (x + 1)))).setCell ⟨g, i, none⟩ (.int .i32 (wrap32 (x + 2)))) (.slice (some ⟨ab, aoff, none⟩) ws.length c) (i32s ws) :=
    (HS3.out.keep hc4).chg (D := [q, g]) (((Chg.refl w4 [q, g]).setCell _ _ (by simp)).setCell _ _ (by simp)) (by intro A n c e; injection e with e _ _; injection e with e; subst e; simp [habq]; omega)
  generalize (w4.setCell ⟨q, i, none⟩ (.int .i32 (wrap32 (x + 1)))).setCell ⟨g, i, none⟩ (.int .i32 (wrap32 (x + 2))) = w5 at *
  clear hcg2 hfg2 hcq hfq hq hqge hc4 hcw
  refine (load_any b r zs i _ hr5 (by omega) (by omega)).mono ?_
  rintro e w6 ⟨he, hc6⟩
  rw [Hld.out, Hin2.out] at he
  subst he
  have hxx : (x != x) = false := by simp
  go_wp2_with fail
  refine (all_any b r zs _ (hr5.chg hc6 (by simp) (by simp))).mono ?_
  rintro e w7 ⟨p, rfl, hp, hpge, hc7⟩
  rw [Hzl.out]
  have hcp : w7.cell? ⟨p, i, none⟩ = some (.int .i32 (zs.getD i 0)) := hp.cell' (i32s_at _ _ (by have := Hzl.out; omega))
  generalize zs.getD i 0 = z1 at hcp
  have hfp := hp.frozen i
  have hcw7 := hc7.cell (hc6.cell hcw5 (by simp)) (by simp)
  have hll : ((ws.length : Int) != (ws.length : Int)) = false := by simp
  go_wp2_with fail
  have hs8 : Sl (w7.setCell ⟨p, i, none⟩ (.int .i32 y)) (.slice (some ⟨p, 0, none⟩) ws.length ws.length) (i32s ws) := by
    have := hp.set_ i (.int .i32 y)
    rw [Hback.out] at this
    exact Sl.blk' this (by simp) (Nat.le_refl _)
  have habp : ab ≠ p := by have h1 := hc5.size; have h2 := hc6.size; omega
  have ht8 : Sl (w7.setCell ⟨p, i, none⟩ (.int .i32 y)) (.slice (some ⟨ab, aoff, none⟩) ws.length c) (i32s ws) :=
    ((hs5.keep hc6).keep hc7).chg (D := [p]) ((Chg.refl w7 [p]).setCell _ _ (by simp)) (by intro A n c e; injection e with e _ _; injection e with e; subst e; simp [habp])
  have hc8 : Chg w (w7.setCell ⟨p, i, none⟩ (.int .i32 y)) [] := ((hc5.trans hc6 (by simp)).trans hc7 (by simp)).setCell ⟨p, i, none⟩ _ (.inr (show w.heap.size ≤ p by have h1 := hc5.size; have h2 := hc6.size; omega))
  refine (same_any _ _ _ _ ws ws _ hs8 ht8 rfl (by omega)).mono ?_
  rintro e w9 ⟨he, k, rfl⟩
  rw [decide_eq_true rfl] at he
  subst he
  have hc9 := hc8.drewN k
  go_wp2_with (go_at_call 8; refine (awake15 _).mono ?_; rintro e w1 ⟨rfl, hcA⟩)
  go_ret
  exact ⟨rfl, hc9.trans hcA (by simp)⟩

end Go.Proofs.Ytidceolaemikgaa
