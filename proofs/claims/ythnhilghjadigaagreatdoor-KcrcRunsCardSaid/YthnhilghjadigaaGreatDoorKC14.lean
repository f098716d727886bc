/- Texts of this claim, side by side: MkG, MkH, MkI, MkJ, MkK, MkL. -/
import Derived.Test.YthnhilghjadigaaGreatDoorMkF
import Derived.Test.YthnhilghjadigaaGreatDoorKC5
import Derived.Deep.Cut
import Derived.Test.YthnhilghjadigaaGreatDoorKC8
import Derived.StillTailTactics
/- emit.Maker: words of memory. -/
namespace Go.Proofs.YthnhilghjadigaaGreatDoor
open Go Go.RowKit Go.Deep Go.Maps Go.Proofs.YthnhilghjadigaaGreatDoor.Ab Go.Proofs.YthnhilghjadigaaGreatDoor.Xi
set_option linter.unusedVariables false
attribute [local go_sem] Oper.semAt_some
def W2 (i1 i2 : Nat) (A B C : World → Prop) (L : Nat → Bool) (w : World) : Prop := match L i2 with
 | true => C w
 | false => match L i1 with
  | true => B w
  | false => A w
section
variable {i1 i2 : Nat} {A B C : World → Prop} {L L' : Nat → Bool} {w w' : World}
theorem W2.a (h : W2 i1 i2 A B C L w) (h1 : L i1 = false) (h2 : L i2 = false) : A w := by unfold W2 at h; rw [h2, h1] at h; exact h
theorem W2.b (h : W2 i1 i2 A B C L w) (h1 : L i1 = true) (h2 : L i2 = false) : B w := by unfold W2 at h; rw [h2, h1] at h; exact h
theorem W2.keep {i : Nat} (h1 : i ≠ i1) (h2 : i ≠ i2) (h : W2 i1 i2 A B C L w) : W2 i1 i2 A B C (fun j => if j = i then true else L j) w := by
 unfold W2 at h ⊢
 simp only [if_neg (Ne.symm h1), if_neg (Ne.symm h2)]
 exact h
theorem W2.to_b (e : i2 ≠ i1) (h2 : L i2 = false) (h : B w') : W2 i1 i2 A B C (fun j => if j = i1 then true else L j) w' := by
 unfold W2
 simp only [if_neg e, h2, if_true]
 exact h
theorem W2.to_c (h : C w') : W2 i1 i2 A B C (fun j => if j = i2 then true else L j) w' := by unfold W2; simp only [if_true]; exact h
theorem W2.ext (h1 : L i1 = L' i1) (h2 : L i2 = L' i2) (h : W2 i1 i2 A B C L w) : W2 i1 i2 A B C L' w := by unfold W2 at h ⊢; rw [← h1, ← h2]; exact h
end
def vRm (b pp names used n : Nat) (sec : Bool) : Nat → Value
 | 0 => .pointer (some ⟨b, 0, none⟩)
 | 1 => .pointer (some ⟨b, 0, none⟩)
 | 2 => .pointer (some ⟨b, 1, none⟩)
 | 3 => .pointer (some ⟨pp, 0, none⟩)
 | 4 => .pointer (some ⟨b, 0, none⟩)
 | 5 => .string ⟨(118 :: decN8 (names + 1)).toArray⟩
 | 6 => .int .i64 (n : Int)
 | 7 => .bool sec
 | 8 => .tuple #[.int .i64 (used : Int), .int .i64 0]
 | 9 => .tuple #[.int .i64 (used : Int), .int .i64 0]
 | 10 => .int .i64 (used : Int)
 | 11 => .int .i64 0
 | 12 => .int .i64 (used : Int)
 | 13 => .int .i64 0
 | _ => undef
theorem putsRm (v : Nat → Value) (t0 t1 t2 t3 t4 t5 t6 t7 t8 t9 t10 t11 t12 t13 t14 t15 t16 t17 t18 t19 t20 t21 t22 t23 t24 t25 t26 t27 t28 t29 t30 t31 t32 t33 t34 t35 : Value) : putsD v (some 11 :: some 12 :: some 13 :: some 14 :: some 15 :: some 16 :: some 17 :: some 18 :: some 19 :: some 10 :: some 20 :: some 21 :: some 7 :: some 8 :: []) 0 (t0 :: t1 :: t2 :: t3 :: t4 :: t5 :: t6 :: t7 :: t8 :: t9 :: t10 :: t11 :: t12 :: t13 :: t14 :: t15 :: t16 :: t17 :: t18 :: t19 :: t20 :: t21 :: t22 :: t23 :: t24 :: t25 :: t26 :: t27 :: t28 :: t29 :: t30 :: t31 :: t32 :: t33 :: t34 :: t35 :: []) = (t0 :: t1 :: t2 :: t3 :: t4 :: t5 :: t6 :: v 12 :: v 13 :: t9 :: v 9 :: v 0 :: v 1 :: v 2 :: v 3 :: v 4 :: v 5 :: v 6 :: v 7 :: v 8 :: v 10 :: v 11 :: t22 :: t23 :: t24 :: t25 :: t26 :: t27 :: t28 :: t29 :: t30 :: t31 :: t32 :: t33 :: t34 :: t35 :: []) := by kernel_rfl
def roomA (s : KS) (n : Nat) (sec : Bool) : KS := { s with rr := (s.names + 1, n, sec) :: s.rr, used := s.used + n, names := s.names + 1 }
theorem roomWF {s : KS} (h : s.WF) {n : Nat} {sec : Bool} (hn : s.names + 1 ≤ 100000) (h1 : 1 ≤ n) (h2 : s.used + n ≤ 2048) : (roomA s n sec).WF where
 nc := h.nc
 used := h2
 names := hn
 cap := Nat.succ_le_succ h.cap
 reg := fun p hp => by
  rcases List.mem_cons.1 hp with rfl | hp
  · exact Nat.le_refl _
  · exact Nat.le_succ_of_le (h.reg p hp)
 nt := h.nt
 rt := Nat.le_trans h.rt (Nat.le_add_right _ _)
 code := h.code
 defs := Nat.le_succ_of_le h.defs
 lab := fun p hp => Nat.le_succ_of_le (h.lab p hp)
 uses := h.uses
 data := Nat.le_trans h.data (Nat.le_add_right _ _)
 cons := Nat.le_trans h.cons (Nat.le_add_right _ _)
 ri := Nat.le_trans h.ri (Nat.le_add_right _ _)
 ro := h.ro
 dep := h.dep
theorem _root_.Go.Proofs.YthnhilghjadigaaGreatDoor.Ab.KS.WF.rs {s : KS} (h : s.WF) (t : Tr Bool) : ({ s with rs := t } : KS).WF := { h with }
theorem setSec_get (b : Bool) : ∀ (n a : Nat) (t : Tr Bool) (x : Nat), a + n < 1000000 → (setSec b n a t).get x = if a ≤ x ∧ x < a + n then some b else t.get x
 | 0, a, t, x, h => by
  rw [if_neg (by omega)]
  rfl
 | n + 1, a, t, x, h => by
  unfold setSec
  rw [setK_eq', setSec_get b n (Nat.succ a) _ x (by omega), Tr.get_set20 _ _ _ _ (by omega)]
  by_cases h1 : x = a
  · subst h1
    rw [if_neg (by omega), if_pos rfl, if_pos (by omega)]
  · rw [if_neg h1]
    by_cases h2 : Nat.succ a ≤ x ∧ x < Nat.succ a + n
    · rw [if_pos h2, if_pos (by omega)]
    · rw [if_neg h2, if_neg (by omega)]
theorem FsOk.room {fs fs' : Lit → Option Lit} {s : KS} (h : FsOk fs s) {n : Nat} {sec : Bool} (hf : ∀ a : Nat, fs' (.int .i64 a) = if s.used ≤ a ∧ a < s.used + n then some (.bool sec) else fs (.int .i64 a)) (hu : s.used + n ≤ 2048) : FsOk fs' (s.room n sec) := by
 intro a ha
 have ha : a < s.used + n := ha
 rw [hf a]
 unfold secAt
 show _ = some (Lit.bool (match (setSec sec n s.used s.rs).get a with | some b => b | none => false))
 rw [setSec_get _ _ _ _ _ (by omega)]
 by_cases h1 : s.used ≤ a ∧ a < s.used + n
 · rw [if_pos h1, if_pos h1]
 · rw [if_neg h1, if_neg h1]
   exact h a (by omega)
theorem trans_plan {w w1 w2 : World} {b : Nat} {p : KP} (h : Chg w w1 [b]) (h2 : Chg w1 w2 ([p.pp] ++ p.rv.ownBlock.toList)) : Chg w w2 (p.foot b) :=
 (h.more fun k hk => .inl (KP.mem_part (i := 0) hk)).trans h2 fun k hk => by
   rcases List.mem_append.1 hk with hk | hk
   · exact .inl (KP.mem_part (i := 2) hk)
   · exact .inl (KP.mem_part (i := 9) hk)
theorem putL_in (f : Lit → Option Lit) (u k : Nat) (b : Bool) (g : Lit → Option Lit) (hg : ∀ a : Nat, g (.int .i64 a) = if u ≤ a ∧ a < u + k then some (.bool b) else f (.int .i64 a)) (a : Nat) :
 putL g (.int .i64 ((u : Int) + (k : Int))) (.bool b) (.int .i64 a) = if u ≤ a ∧ a < u + (k + 1) then some (.bool b) else f (.int .i64 a) := by
 unfold putL
 by_cases h : a = u + k
 · subst h
   rw [if_pos (by rw [Int.natCast_add]), if_pos (by omega)]
 · rw [if_neg (fun e => h (by injection e with _ e; omega)), hg a]
   by_cases h1 : u ≤ a ∧ a < u + k
   · rw [if_pos h1, if_pos (by omega)]
   · rw [if_neg h1, if_neg (by omega)]
theorem kb_rs {w : World} {b : MP} {p : KP} {s : KS} (h : KB w b p s) (t : Tr Bool) : KB w b p { s with rs := t } := { h with wf := h.wf.rs t }
section
variable {w : World} {b : MP} {s : KS} {F : List Nat}
set_option maxRecDepth 100000 in
set_option maxHeartbeats 2000000 in
theorem room_calls (h : KR w b s F) (n : Nat) (sec : Bool) (h1 : 1 ≤ n) (h2 : s.used + n ≤ 2048) (hn : s.names + 1 ≤ 100000) :
 Calls Tryz.prog 37 #[.pointer (some ⟨b.a, 0, none⟩), .int .i64 (n : Int), .bool sec] w (MkP (.int .i64 (s.used : Int)) (s.room n sec) b F w) := by
 obtain ⟨p, hp, hf, rfl⟩ := h
 have hmix := hide (show Tryz.prog.follows .mixedOrders = true by kernel_rfl)
 have HB := hide hp
 have HF := hide hf
 have HN := hide hn
 have HN1 := hide h1
 have HN2 := hide h2
 have hC1 := hide (show ∀ L w1, W2 5 8 (fun w' => Chg w w' []) (fun w' => Chg w w' [b.a] ∧ KB w' b p { s with names := s.names + 1 }) (fun w' => Chg w w' (p.foot b) ∧ ∃ rv, KB w' b { p with rv := rv } (roomA s n sec) ∧ Sub (KP.foot b { p with rv := rv }) (p.foot b) w) L w1 → L 8 = false → w1.cell? ⟨b.a, 1, none⟩ = some (.pointer (some ⟨p.pp, 0, none⟩)) from by
  intro L w1 hW h8
  cases h5 : L 5 with
  | false => exact (hp.blk.chg (W2.a hW h5 h8) (by simp)).cell' (i := 1) rfl
  | true => exact (W2.b hW h5 h8).2.blk.cell' (i := 1) rfl)
 clear hp hf hn h1 h2
 go_enter Tryz.func37, Tryz.ntmps37
 go_upto_region 1 with (fail)
 refine wp_regionJ hmix.out _ _ (fun _ => vRm b.a p.pp s.names s.used n sec) (fun (_ : Unit) L w' => W2 5 8 (fun w' => Chg w w' []) (fun w' => Chg w w' [b.a] ∧ KB w' b p { s with names := s.names + 1 }) (fun w' => Chg w w' (p.foot b) ∧ ∃ rv, KB w' b { p with rv := rv } (roomA s n sec) ∧ Sub (KP.foot b { p with rv := rv }) (p.foot b) w) L w') () (by kernel_rfl) [] (by kernel_rfl) (fun p hp γ => by simp at hp) (by kernel_rfl) ?step ?start ?fin ?ext
 case start => exact (Chg.refl w []).drew
 case ext => exact fun γ L L' w' h hw => hw.ext (h 5 (by decide)) (h 8 (by decide))
 case step =>
  intro i o ho L av w1 γ hdn htm hW hL hpre K Q hK
  match i, ho with
  | 0, ho =>
   injection ho with ho; subst ho
   have b0 : av.tmps.getD 0 undef = .pointer (some ⟨b.a, 0, none⟩) := slB htm 0 (by kernel_rfl)
   clear htm
   refine val_now ?_ (hK () w1 (fun _ _ => rfl) (W2.keep (by decide) (by decide) hW)); go_simp; rfl
  | 1, ho =>
   injection ho with ho; subst ho
   have s0 := slA htm 11 0 (by kernel_rfl) (hpre ⟨0, .data⟩ (by simp) rfl)
   simp only [vRm] at s0
   clear htm
   refine val_now ?_ (hK () w1 (fun _ _ => rfl) (W2.keep (by decide) (by decide) hW)); go_simp; rfl
  | 2, ho =>
   injection ho with ho; subst ho
   have s1 := slA htm 12 1 (by kernel_rfl) (hpre ⟨1, .data⟩ (by simp) rfl)
   simp only [vRm] at s1
   clear htm
   refine val_now ?_ (hK () w1 (fun _ _ => rfl) (W2.keep (by decide) (by decide) hW)); go_simp; rfl
  | 3, ho =>
   injection ho with ho; subst ho
   have s2 := slA htm 13 2 (by kernel_rfl) (hpre ⟨2, .data⟩ (by simp) rfl)
   simp only [vRm] at s2
   clear htm
   have l8 : L 8 = false := by
    cases h : L 8 with
    | false => rfl
    | true =>
     have h3 : L 3 = true := hdn 8 _ rfl h ⟨3, .data⟩ (by simp) rfl
     rw [hL] at h3; cases h3
   have y := hC1.out L w1 hW l8
   refine val_now ?_ (hK () w1 (fun _ _ => rfl) (W2.keep (by decide) (by decide) hW)); go_simp; rfl
  | 4, ho =>
   injection ho with ho; subst ho
   have b0 : av.tmps.getD 0 undef = .pointer (some ⟨b.a, 0, none⟩) := slB htm 0 (by kernel_rfl)
   clear htm
   refine val_now ?_ (hK () w1 (fun _ _ => rfl) (W2.keep (by decide) (by decide) hW)); go_simp; rfl
  | 5, ho =>
   injection ho with ho; subst ho
   have s4 := slA htm 15 4 (by kernel_rfl) (hpre ⟨4, .data⟩ (by simp) rfl)
   simp only [vRm] at s4
   clear htm
   have l8 : L 8 = false := by
    cases h : L 8 with
    | false => rfl
    | true =>
     have h3 : L 5 = true := hdn 8 _ rfl h ⟨5, .data⟩ (by simp) rfl
     rw [hL] at h3; cases h3
   have hA := W2.a hW hL l8
   refine call_now (f := 69) (args := #[.pointer (some ⟨b.a, 0, none⟩), .string ⟨#[118]⟩]) ?_ (name_calls (HB.out.chg0 hA) 118 HN.out) ?_
   · go_simp
   · rintro e w2 ⟨rfl, hc, hk⟩
     exact ⟨_, rfl, hK () w2 (fun _ _ => rfl) (W2.to_b (by decide) l8 ⟨(hA.more (by simp)).trans hc (fun k hk => .inl hk), hk⟩)⟩
  | 6, ho =>
   injection ho with ho; subst ho
   have b1 : av.tmps.getD 1 undef = .int .i64 (n : Int) := slB htm 1 (by kernel_rfl)
   clear htm
   refine val_now ?_ (hK () w1 (fun _ _ => rfl) (W2.keep (by decide) (by decide) hW)); go_simp; rfl
  | 7, ho =>
   injection ho with ho; subst ho
   have b2 : av.tmps.getD 2 undef = .bool sec := slB htm 2 (by kernel_rfl)
   clear htm
   refine val_now ?_ (hK () w1 (fun _ _ => rfl) (W2.keep (by decide) (by decide) hW)); go_simp; rfl
  | 8, ho =>
   injection ho with ho; subst ho
   have s3 := slA htm 14 3 (by kernel_rfl) (hpre ⟨3, .data⟩ (by simp) rfl)
   have l5 := hpre ⟨5, .data⟩ (by simp) rfl
   have s5 := slA htm 16 5 (by kernel_rfl) l5
   have s6 := slA htm 17 6 (by kernel_rfl) (hpre ⟨6, .data⟩ (by simp) rfl)
   have s7 := slA htm 18 7 (by kernel_rfl) (hpre ⟨7, .data⟩ (by simp) rfl)
   simp only [vRm] at s3 s5 s6 s7
   clear htm
   have l5 := hpre ⟨5, .data⟩ (by simp) rfl
   obtain ⟨hcB, hkB⟩ := W2.b hW l5 hL
   refine call_now (f := 68) (args := #[.pointer (some ⟨p.pp, 0, none⟩), strV (vName (s.names + 1)), .int .i64 (n : Int), .bool sec]) ?_ (alloc_calls hkB.plan (s.names + 1) n sec (fun x hx e => by have := HB.out.wf.reg x hx; omega) (by have := HB.out.wf.cap; have := HB.out.wf.names; show s.rr.length ≤ _; omega) HN1.out HN2.out (by have := HN.out; omega)) ?_
   · unfold strV vName; go_simp
   · rintro e w2 ⟨rfl, hc, rv, hs, hp⟩
     refine ⟨_, rfl, hK () w2 (fun _ _ => rfl) (W2.to_c ⟨trans_plan hcB hc, rv, ?_, ?_⟩)⟩
     · exact hkB.planr hc hs hp (Nat.le_add_right _ _) (roomWF HB.out.wf HN.out HN1.out HN2.out)
     · intro k hk
       rcases KB.planr_foot (b := b) (p := p) hs k hk with h | h
       · exact .inl h
       · exact .inr (Nat.le_trans hcB.size h)
  | 9, ho =>
   injection ho with ho; subst ho
   have s8 := slA htm 19 8 (by kernel_rfl) (hpre ⟨8, .data⟩ (by simp) rfl)
   simp only [vRm] at s8
   clear htm
   refine val_now ?_ (hK () w1 (fun _ _ => rfl) (W2.keep (by decide) (by decide) hW)); go_simp; rfl
  | 10, ho =>
   injection ho with ho; subst ho
   have s9 := slA htm 10 9 (by kernel_rfl) (hpre ⟨9, .data⟩ (by simp) rfl)
   simp only [vRm] at s9
   clear htm
   refine val_now ?_ (hK () w1 (fun _ _ => rfl) (W2.keep (by decide) (by decide) hW)); go_simp; rfl
  | 11, ho =>
   injection ho with ho; subst ho
   have s9 := slA htm 10 9 (by kernel_rfl) (hpre ⟨9, .data⟩ (by simp) rfl)
   simp only [vRm] at s9
   clear htm
   refine val_now ?_ (hK () w1 (fun _ _ => rfl) (W2.keep (by decide) (by decide) hW)); go_simp; rfl
  | 12, ho =>
   injection ho with ho; subst ho
   have s10 := slA htm 20 10 (by kernel_rfl) (hpre ⟨10, .data⟩ (by simp) rfl)
   simp only [vRm] at s10
   clear htm
   refine val_now ?_ (hK () w1 (fun _ _ => rfl) (W2.keep (by decide) (by decide) hW)); go_simp; rfl
  | 13, ho =>
   injection ho with ho; subst ho
   have s11 := slA htm 21 11 (by kernel_rfl) (hpre ⟨11, .data⟩ (by simp) rfl)
   simp only [vRm] at s11
   clear htm
   refine val_now ?_ (hK () w1 (fun _ _ => rfl) (W2.keep (by decide) (by decide) hW)); go_simp; rfl
  | _ + 14, ho => cases ho
 case fin =>
 intro γ w1 hW
 rw [finG_puts, putsR_list, putsL_dst]
 simp only [List.map_cons, List.map_nil]
 rw [putsRm]
 simp only [vRm]
 have hW : Chg w w1 (p.foot b) ∧ ∃ rv, KB w1 b { p with rv := rv } (roomA s n sec) ∧ Sub (KP.foot b { p with rv := rv }) (p.foot b) w := hW
 obtain ⟨hc1, rv, hk1, hs1⟩ := hW
 have HK1 := hide hk1
 have HC1 := hide hc1
 have HS1 := hide hs1
 clear hc1 hk1 hs1 hC1
 go_wp2
 go_loopw [9, 23] (fun _ i wr => ∃ (k m : Nat) (fs : Lit → Option Lit), k ≤ n ∧ i = .int .i64 k ∧ Hid (m = p.ns + k) ∧ Hid (Chg w1 wr [p.ms]) ∧ Hid (KB wr b { p with rv := rv, ns := m, fs := fs } (roomA s n sec)) ∧ Hid (∀ a : Nat, fs (.int .i64 a) = if s.used ≤ a ∧ a < s.used + k then some (.bool sec) else p.fs (.int .i64 a))) (fun _ i _ => n - (intOf i).toNat)
 case atStart => exact ⟨0, p.ns, p.fs, Nat.zero_le _, rfl, hide rfl, hide (Chg.refl _ _), HK1, hide fun a => by rw [if_neg (by omega)]⟩
 case round =>
  obtain ⟨k, m, fs, hk, rfl, HM, HR, HKR, HFS⟩ := hrel
  by_cases hlt : k < n
  · have c3 := HKR.out.blk.cell' (i := 3) rfl
    have hw1 : wrap64 ((s.used : Int) + (k : Int)) = (s.used : Int) + (k : Int) := by have := HN2.out; unfold wrap64; omega
    have hky : keyOf Tryz.prog 3 (.int .i64 (wrap64 ((s.used : Int) + (k : Int)))) = some (.int .i64 ((s.used : Int) + (k : Int))) := by
     rw [hw1]
     exact key_int (by omega) (by have := HN2.out; omega)
    have HLT := hide hlt
    clear hlt
    go_wp2_with (at_mapUpdate; refine wpList_putLl rfl _ _ 83 3 4 keyed_int p.ms m fs _ rfl Tryz.underlying83 rfl HKR.out.sec (by have q1 : m ≤ s.used + n := HKR.out.ns; have q2 := HN2.out; unfold maxLen; omega) _ (.int .i64 ((s.used : Int) + (k : Int))) rfl hky trivial (.bool sec) (.bool sec) rfl (plainElem_bool Tryz.underlying4 sec) ?_)
    intro w5 hm5 hc5
    have HC5 := hide hc5
    have HM5 := hide hm5
    clear hm5 hc5 c3 hky hw1
    have q1 := HLT.out
    have q2 : n ≤ 2048 := by have := HN2.out; omega
    go_wp2
    go_roundw
    case rel =>
     refine ⟨k + 1, m + 1, putL fs (.int .i64 ((s.used : Int) + (k : Int))) (.bool sec), by have := HLT.out; omega, by go_num, hide (by have := HM.out; omega), hide (Chg.trans (D := [p.ms]) (D' := [p.ms]) HR.out HC5.out (fun k hk => .inl hk)), hide ?_, hide (putL_in p.fs s.used k sec fs HFS.out)⟩
     exact (HKR.out.secr HC5.out HM5.out (by have := HB.out.ns; have := HM.out; have := HLT.out; show m + 1 ≤ s.used + n; omega))
    case measure => simp [intOf]; omega
  · have hk2 : k = n := by omega
    subst hk2
    go_wp2
    go_ret
    exact ⟨rfl, HC1.out.trans HR.out (fun k hk => .inl (KP.mem_part (p := p) (i := 4) hk)), _, HS1.out, { p with rv := rv, ns := m, fs := fs }, kb_rs HKR.out _, FsOk.room (fs' := fs) HF.out HFS.out HN2.out, rfl⟩
end
end Go.Proofs.YthnhilghjadigaaGreatDoor

/- emit.Maker: kept, Cell, Get, Set. -/
namespace Go.Proofs.YthnhilghjadigaaGreatDoor
open Go.RowKit Go.Deep Go.Maps Go.Proofs.YthnhilghjadigaaGreatDoor.Ab
set_option linter.unusedVariables false
attribute [local go_sem] Oper.semAt_some
theorem MkQ.lift {v : Value} {s s' : KS} {b : MP} {p : KP} {w w' : World} {e : Ending} (hf : FsOk p.fs s) (hs : ∀ fs, FsOk fs s → FsOk fs s') (h : MkQ v s' b p w e w') : MkP v s' b (p.foot b) w e w' := by
 obtain ⟨he, hc, p', hk, hfs, hsub⟩ := h
 exact ⟨he, hc, p'.foot b, hsub, p', hk, hfs ▸ hs _ hf, rfl⟩
section
variable {w : World} {b : MP} {s : KS} {F : List Nat}
theorem KR.load (h : KR w b s F) (r a : Nat) (hr : r ≤ 31) (ha : a ≤ 2048) (hc : s.nc ≤ 799999) :
 Calls Tryz.prog 293 #[.pointer (some ⟨b.a, 0, none⟩), .int .i64 (r : Int), .int .i64 (a : Int)] w (MkP (.tuple #[]) (s.load r a) b F w) := by
 obtain ⟨p, hp, hf, rfl⟩ := h
 exact (load_calls hp r a hr ha hc).mono fun e w' hq => hq.lift hf fun fs h => h
theorem KR.store (h : KR w b s F) (r a : Nat) (hr : r ≤ 31) (ha : a ≤ 2048) (hc : s.nc ≤ 799999) :
 Calls Tryz.prog 297 #[.pointer (some ⟨b.a, 0, none⟩), .int .i64 (r : Int), .int .i64 (a : Int)] w (MkP (.tuple #[]) (s.store r a) b F w) := by
 obtain ⟨p, hp, hf, rfl⟩ := h
 exact (store_calls hp r a hr ha hc).mono fun e w' hq => hq.lift hf fun fs h => h
theorem can_iff {s : KS} {n : Nat} (h : s.can n = true) : s.used + n ≤ 2048 ∧ s.names ≤ 99990 ∧ s.nc ≤ 799980 := by
 unfold KS.can at h
 simp only [Bool.and_eq_true] at h
 exact ⟨Nat.le_of_ble_eq_true h.1, Nat.le_of_ble_eq_true h.2.1, Nat.le_of_ble_eq_true h.2.2⟩
set_option maxRecDepth 100000 in
theorem kept_calls (h : KR w b s F) (r : Nat) (sec : Bool) (hr : r ≤ 31) (h2 : s.used + 1 ≤ 2048) (hn : s.names + 1 ≤ 100000) (hc : s.nc ≤ 799999) :
 Calls Tryz.prog 294 #[.pointer (some ⟨b.a, 0, none⟩), .int .i64 (r : Int), .bool sec] w (MkP (.int .i64 (s.used : Int)) (s.kept r sec) b F w) := by
 have hm := room_calls h 1 sec (Nat.le_refl _) h2 hn
 have HB := hide h2
 have HC := hide hc
 clear h h2 hn hc
 go_enter Tryz.func294, Tryz.ntmps294
 go_wp2_with (go_at_call 37; refine hm.mono ?_)
 rintro e w1 ⟨rfl, hc1, F1, hs1, hk1⟩
 have hst := KR.store hk1 r s.used hr (by have := HB.out; omega) HC.out
 have HC1 := hide hc1
 have HS1 := hide hs1
 clear hc1 hs1 hk1 hm
 go_wp2_with (go_at_call 297; refine hst.mono ?_)
 intro e w2 hq
 obtain ⟨rfl, hc2, F2, hs2, hk2⟩ := MkP.trans HC1.out HS1.out hq
 have HC2 := hide hc2
 have HS2 := hide hs2
 have HK2 := hide hk2
 clear hq hc2 hs2 hk2 hst
 go_wp2
 go_ret
 exact ⟨rfl, HC2.out, F2, HS2.out, HK2.out⟩
set_option maxRecDepth 100000 in
theorem cell_calls (h : KR w b s F) (v : Nat) (hv : v ≤ 2048) (hcan : s.can 1 = true) :
 Calls Tryz.prog 287 #[.pointer (some ⟨b.a, 0, none⟩), .int .i64 (v : Int)] w (MkP (.int .i64 (s.used : Int)) (s.cell v) b F w) := by
 obtain ⟨a1, a2, a3⟩ := can_iff hcan
 have hm := KR.load h 1 v (by decide) hv (by omega)
 have A1 := hide a1
 have A2 := hide a2
 have A3 := hide a3
 clear h hcan a1 a2 a3
 go_enter Tryz.func287, Tryz.ntmps287
 go_wp2_with (go_at_call 293; refine hm.mono ?_)
 rintro e w1 ⟨rfl, hc1, F1, hs1, hk1⟩
 have hst := kept_calls hk1 1 true (by decide) (by have := A1.out; exact this) (by have := A2.out; show s.names + 1 ≤ _; omega) (by have := A3.out; show s.nc + 1 ≤ _; omega)
 have HC1 := hide hc1
 have HS1 := hide hs1
 clear hc1 hs1 hk1 hm
 go_wp2_with (go_at_call 294; refine hst.mono ?_)
 intro e w2 hq
 obtain ⟨rfl, hc2, F2, hs2, hk2⟩ := MkP.trans HC1.out HS1.out hq
 have HC2 := hide hc2
 have HS2 := hide hs2
 have HK2 := hide hk2
 clear hq hc2 hs2 hk2 hst
 go_wp2
 go_ret
 exact ⟨rfl, HC2.out, F2, HS2.out, HK2.out⟩
set_option maxRecDepth 100000 in
theorem get_calls (h : KR w b s F) (v : Nat) (hv : v ≤ 2048) (hcan : s.can 1 = true) :
 Calls Tryz.prog 290 #[.pointer (some ⟨b.a, 0, none⟩), .int .i64 (v : Int)] w (MkP (.int .i64 (s.used : Int)) (s.cell v) b F w) := by
 have hm := cell_calls h v hv hcan
 clear h hcan
 go_enter Tryz.func290, Tryz.ntmps290
 go_wp2_with (go_at_call 287; refine hm.mono ?_)
 intro e w2 hq
 obtain ⟨rfl, hc2, F2, hs2, hk2⟩ := hq
 have HC2 := hide hc2
 have HS2 := hide hs2
 have HK2 := hide hk2
 clear hc2 hs2 hk2 hm
 go_wp2
 go_ret
 exact ⟨rfl, HC2.out, F2, HS2.out, HK2.out⟩
set_option maxRecDepth 100000 in
theorem mset_calls (h : KR w b s F) (c v : Nat) (hc : c ≤ 2048) (hv : v ≤ 2048) (hn : s.nc ≤ 799990) :
 Calls Tryz.prog 292 #[.pointer (some ⟨b.a, 0, none⟩), .int .i64 (c : Int), .int .i64 (v : Int)] w (MkP (.tuple #[]) (s.set c v) b F w) := by
 have hm := KR.load h 1 v (by decide) hv (by omega)
 have A3 := hide hn
 clear h hn
 go_enter Tryz.func292, Tryz.ntmps292
 go_wp2_with (go_at_call 293; refine hm.mono ?_)
 rintro e w1 ⟨rfl, hc1, F1, hs1, hk1⟩
 have hst := KR.store hk1 1 c (by decide) hc (by have := A3.out; show s.nc + 1 ≤ _; omega)
 have HC1 := hide hc1
 have HS1 := hide hs1
 clear hc1 hs1 hk1 hm
 go_wp2_with (go_at_call 297; refine hst.mono ?_)
 intro e w2 hq
 obtain ⟨rfl, hc2, F2, hs2, hk2⟩ := MkP.trans HC1.out HS1.out hq
 have HC2 := hide hc2
 have HS2 := hide hs2
 have HK2 := hide hk2
 clear hq hc2 hs2 hk2 hst
 go_wp2
 refine bodyPost_end (results_none rfl _ _ _) rfl ?_
 exact ⟨rfl, HC2.out, F2, HS2.out, HK2.out⟩
end
end Go.Proofs.YthnhilghjadigaaGreatDoor

/- emit.Maker: Const. -/
namespace Go.Proofs.YthnhilghjadigaaGreatDoor
open Go.RowKit Go.Deep Go.Maps Go.Proofs.YthnhilghjadigaaGreatDoor.Ab
set_option linter.unusedVariables false
attribute [local go_sem] Oper.semAt_some
theorem keyed_i32 : Keyed Tryz.prog 21 := int_keyed Tryz.underlying21
theorem wf32 {n : Int} (h : In32 n) : (Lit.int .i32 n).wf = true := by
 unfold In32 at h
 simp [Lit.wf, IntKind.min, IntKind.max, IntKind.signed, IntKind.bits]
 omega
theorem key_i32 {n : Int} (h : In32 n) : keyOf Tryz.prog 21 (.int .i32 n) = some (.int .i32 n) := keyOf_int_mk Tryz.underlying21 (wf32 h)
theorem dataF_cons (d : List (Nat × Int)) (u : Nat) (x : Int) : putL (dataF d) (.int .i64 (u : Int)) (.int .i32 x) = dataF ((u, x) :: d) := by
 funext k
 unfold putL
 split
 · rename_i h
   subst h
   simp [dataF, findD]
 · rename_i h
   unfold dataF
   split
   · rename_i a
     rw [show findD ((u, x) :: d) a = if (u : Int) = a then some x else findD d a from rfl, if_neg (fun e => h (by rw [e]))]
   · rfl
theorem consF_cons (d : List (Int × Nat)) (n : Int) (a : Nat) : putL (consF d) (.int .i32 n) (.int .i64 (a : Int)) = consF ((n, a) :: d) := by
 funext k
 unfold putL
 split
 · rename_i h
   subst h
   simp [consF, findC]
 · rename_i h
   unfold consF
   split
   · rename_i m
     rw [show findC ((n, a) :: d) m = if n = m then some a else findC d m from rfl, if_neg (fun e => h (by rw [e]))]
   · rfl
theorem constWF {s : KS} (h : s.WF) {n : Int} (hu : s.used + 1 ≤ 2048) (hn : s.names + 1 ≤ 100000) : ({ (s.room 1 false) with data := (s.used, n) :: s.data, cons := (n, s.used) :: s.cons } : KS).WF :=
 { (show (s.room 1 false).WF from (roomWF (sec := false) h hn (Nat.le_refl 1) hu).rs _) with data := Nat.succ_le_succ h.data, cons := Nat.succ_le_succ h.cons }
theorem constWF1 {s : KS} (h : s.WF) {n : Int} (hu : s.used + 1 ≤ 2048) (hn : s.names + 1 ≤ 100000) : ({ (s.room 1 false) with data := (s.used, n) :: s.data } : KS).WF :=
 { (show (s.room 1 false).WF from (roomWF (sec := false) h hn (Nat.le_refl 1) hu).rs _) with data := Nat.succ_le_succ h.data }
section
variable {w : World} {b : MP} {s : KS} {F : List Nat}
set_option maxRecDepth 100000 in
set_option maxHeartbeats 1000000 in
theorem const_calls (h : KR w b s F) (n : Int) (hn : In32 n) (hcan : s.can 1 = true) :
 Calls Tryz.prog 288 #[.pointer (some ⟨b.a, 0, none⟩), .int .i32 n] w (MkP (.int .i64 ((s.const n).1 : Int)) (s.const n).2 b F w) := by
 obtain ⟨a1, a2, a3⟩ := can_iff hcan
 have hm := room_calls h 1 false (Nat.le_refl _) a1 (by omega)
 have A1 := hide a1
 have A2 := hide a2
 have HK := hide h
 obtain ⟨p, hp, hf, hF⟩ := h
 have HW := hide hp.wf
 have HC := hide hp.cons
 have c4 := hp.blk.cell' (i := 4) rfl
 have hky := key_i32 hn
 have HN := hide hn
 cases hfc : findC s.cons n with
 | some a =>
  have e1 : s.const n = (a, s) := by unfold KS.const; rw [hfc]
  have hv : consF s.cons (.int .i32 n) = some (.int .i64 (a : Int)) := by simp [consF, hfc]
  rw [e1]
  clear hm hp hf hF hfc e1 hcan a1 a2 a3
  go_enter Tryz.func288, Tryz.ntmps288
  go_wp2_with (at_lookup; refine wpList_lookLi rfl _ _ 84 21 3 .i64 keyed_i32 p.mc p.ncn (consF s.cons) rfl Tryz.underlying84 Tryz.underlying3 rfl rfl HC.out _ (.int .i32 n) rfl hky trivial (a : Int) (by rw [hv]; rfl) ?_; rw [hv])
  go_ret
  exact ⟨rfl, Chg.refl _ _, F, Sub.refl _ _, HK.out⟩
 | none =>
  have e1 : s.const n = (s.used, { (s.room 1 false) with data := (s.used, n) :: s.data, cons := (n, s.used) :: s.cons }) := by unfold KS.const; rw [hfc]
  have hv : consF s.cons (.int .i32 n) = none := by simp [consF, hfc]
  rw [e1]
  clear hp hf hF hfc e1 hcan a1 a2 a3
  go_enter Tryz.func288, Tryz.ntmps288
  go_wp2_with (first | (at_lookup; refine wpList_lookLi rfl _ _ 84 21 3 .i64 keyed_i32 p.mc p.ncn (consF s.cons) rfl Tryz.underlying84 Tryz.underlying3 rfl rfl HC.out _ (.int .i32 n) rfl hky trivial 0 (by rw [hv]; rfl) ?_; rw [hv]) | (go_at_call 37; refine hm.mono ?_))
  rintro e w1 ⟨rfl, hc1, F1, hs1, p1, hp1, hf1, rfl⟩
  have HC1 := hide hc1
  have HS1 := hide hs1
  have HP1 := hide hp1
  have HF1 := hide hf1
  have d2 := hp1.blk.cell' (i := 2) rfl
  have d4 := hp1.blk.cell' (i := 4) rfl
  have hku := key_int (k := (s.used : Int)) (by omega) (by have := A1.out; omega)
  have hwx := wf64 (k := (s.used : Int)) (by omega) (by have := A1.out; omega)
  clear hc1 hs1 hp1 hf1 hm c4
  go_wp2_with (at_mapUpdate; refine wpList_putLl rfl _ _ 82 3 21 keyed_int p1.md p1.nd (dataF s.data) _ rfl Tryz.underlying82 rfl HP1.out.data (by have q1 := HP1.out.nd; have q2 := HP1.out.wf.data; have q3 := HP1.out.wf.used; unfold maxLen; omega) _ (.int .i64 (s.used : Int)) rfl hku trivial (.int .i32 n) (.int .i32 n) rfl (plainElem_int Tryz.underlying21 (wf32 HN.out)) ?_)
  intro w2 hm2 hc2
  rw [dataF_cons] at hm2
  have HP2 := hide (HP1.out.datar hc2 hm2 (Nat.succ_le_succ HP1.out.nd) (constWF1 HW.out A1.out (by have := A2.out; omega)))
  have e4 := HP2.out.blk.cell' (i := 4) rfl
  have HC2 := hide hc2
  clear hm2 hc2 d2 d4
  go_wp2_with (at_mapUpdate; refine wpList_putLl rfl _ _ 84 21 3 keyed_i32 p1.mc p1.ncn (consF s.cons) _ rfl Tryz.underlying84 rfl HP2.out.cons (by have q1 := HP1.out.ncn; have q2 := HP1.out.wf.cons; have q3 := HP1.out.wf.used; unfold maxLen; omega) _ (.int .i32 n) rfl hky trivial (.int .i64 (s.used : Int)) (.int .i64 (s.used : Int)) rfl (plainElem_int Tryz.underlying3 hwx) ?_)
  intro w3 hm3 hc3
  rw [consF_cons] at hm3
  have HP3 := hide (HP2.out.consr hc3 hm3 (Nat.succ_le_succ HP2.out.ncn) (constWF HW.out A1.out (by have := A2.out; omega)))
  have HC3 := hide hc3
  clear hm3 hc3 e4 hky hku hwx
  go_wp2
  go_ret
  have hA : Chg w1 w2 (p1.foot b) := HC2.out.more (fun k hk => .inl (KP.mem_part (i := 3) hk))
  have hB : Chg w2 w3 (p1.foot b) := HC3.out.more (fun k hk => .inl (KP.mem_part (i := 5) hk))
  exact ⟨rfl, HC1.out.trans (hA.trans hB (fun k hk => .inl hk)) (fun k hk => HS1.out k hk), _, HS1.out, _, HP3.out, HF1.out, rfl⟩
end
end Go.Proofs.YthnhilghjadigaaGreatDoor

/- emit.Maker: Do. -/
namespace Go.Proofs.YthnhilghjadigaaGreatDoor
open Go.RowKit Go.Deep Go.Maps Go.Proofs.YthnhilghjadigaaGreatDoor.Ab
set_option linter.unusedVariables false
attribute [local go_sem] Oper.semAt_some
theorem chk_do2 {op : Int} (h1 : 1 ≤ op) (h2 : op ≤ 23) : chk op 3 1 2 0 = 0 := by
 rw [chk_iff]
 rcases shp_cases op with ⟨h, e⟩ | ⟨h, e⟩ | ⟨h, e⟩ | ⟨h, e⟩ | ⟨h, e⟩ | ⟨h, e⟩ | ⟨h, e⟩ | ⟨h, e⟩ | ⟨h, e⟩ | ⟨h, e⟩ <;> (unfold Fits regOk; (try simp); omega)
theorem chk_do1 {op : Int} (h1 : 24 ≤ op) (h2 : op ≤ 30) : chk op 3 1 0 0 = 0 := by
 rw [chk_iff]
 rcases shp_cases op with ⟨h, e⟩ | ⟨h, e⟩ | ⟨h, e⟩ | ⟨h, e⟩ | ⟨h, e⟩ | ⟨h, e⟩ | ⟨h, e⟩ | ⟨h, e⟩ | ⟨h, e⟩ | ⟨h, e⟩ <;> (unfold Fits regOk; (try simp); omega)
theorem far_sub {F F1 : List Nat} {w : World} {k : Nat} (hs : Sub F1 F w) (hn : k ∉ F) (hk : k < w.heap.size) : k ∉ F1 := fun hm => by
 rcases hs k hm with h | h
 · exact hn h
 · omega
theorem op_two {s : KS} {op a c : Nat} (h : op ≤ 23) : s.op op a c = (((s.load 1 a).load 2 c).ins ⟨op, 3, 1, 2, 0⟩).kept 3 (secAt s a || secAt s c) := by
 unfold KS.op
 simp only [h, if_true]
theorem op_one {s : KS} {op a c : Nat} (h : ¬ op ≤ 23) : s.op op a c = ((s.load 1 a).ins ⟨op, 3, 1, 0, 0⟩).kept 3 (secAt s a || secAt s c) := by
 unfold KS.op
 simp only [h, if_false]
theorem plain_bool {P : Program} {ety : TypeId} (he : P.underlying ety = some .bool) {u : Value} {v : Bool} {ps : List MemPlace} (hu : plainElem (H := Unit) P ety u = some (.lit (.bool v), ps)) : u = .bool v := by
 unfold plainElem at hu
 rw [he] at hu
 cases u <;> simp at hu
 rw [hu.1]
theorem look_sec {w : World} {m n : Nat} {f : Lit → Option Lit} (h : MapL w 3 4 m n f) (c : Nat) (hc : c ≤ 1000000) (v : Bool) (hv : f (.int .i64 (c : Int)) = some (.bool v)) :
 (Instr.lookup 83 (.map (some m)) (.int .i64 (c : Int)) false).run Tryz.prog w = .ok (.bool v) w := by
 obtain ⟨D, hown, hT, hD, hf⟩ := h
 obtain ⟨u, ps, hrun, hu⟩ := hown.lookup keyed_int Tryz.underlying83 (Tryz.zeroValue4 w) (plainElem_bool Tryz.underlying4 false) (key_int (k := (c : Int)) (by omega) (by omega))
 obtain ⟨_, h2⟩ := hf (.int .i64 (c : Int)) trivial
 rw [h2, hv] at hu
 have hu : u = .bool v := plain_bool Tryz.underlying4 hu
 rw [hrun, hu]
section
variable {w : World} {b : MP} {s : KS} {F : List Nat}
set_option maxRecDepth 100000 in
set_option maxHeartbeats 2000000 in
theorem do2_calls (h : KR w b s F) (op a c : Nat) (ho1 : 1 ≤ op) (ho2 : op ≤ 23) (ha : a < s.used) (hcc : c < s.used) (hcan : s.can 1 = true) :
 Calls Tryz.prog 289 #[.pointer (some ⟨b.a, 0, none⟩), .int .i64 (op : Int), .int .i64 (a : Int), .int .i64 (c : Int)] w (MkP (.int .i64 (s.used : Int)) (s.op op a c) b F w) := by
 obtain ⟨a1, a2, a3⟩ := can_iff hcan
 rw [op_two (by omega)]
 have A1 := hide a1
 have A2 := hide a2
 have A3 := hide a3
 have HA := hide ha
 have HCC := hide hcc
 have HO1 := hide ho1
 have HO2 := hide ho2
 have hq0 := fun k hk => h.lt k hk
 have HQ0 := hide hq0
 have HG := hide h.glo.size
 have hm := KR.load (h.chg0 ((Chg.refl w []).alloc (.cells #[.int .i64 (op : Int), .int .i64 3, .int .i64 1, .int .i64 0, .int .i64 0] 96))) 1 a (by decide) (by omega) (by omega)
 have hsh := fun W : World => shape_any (op : Int) W
 have hs : shp (op : Int) = [100, 97, 98, 45] := by rcases shp_cases (op : Int) with h | h | h | h | h | h | h | h | h | h <;> first | exact h.2 | omega
 rw [hs] at hsh
 clear hs h ha hcc a1 a2 a3 hcan ho1 ho2 hq0
 go_enter Tryz.func289, Tryz.ntmps289
 go_wp2_with (go_at_call 293; refine hm.mono ?_)
 rintro e w1 ⟨rfl, hc1, F1, hs1, hk1⟩
 have hw0 : (w.alloc (.cells #[.int .i64 (op : Int), .int .i64 3, .int .i64 1, .int .i64 0, .int .i64 0] 96)).heap.size = w.heap.size + 1 := size_alloc _ _
 have hn0 : w.heap.size ∉ F := fun hmm => by have := HQ0.out _ hmm; omega
 have hn1 : w.heap.size ∉ F1 := far_sub hs1 hn0 (by rw [hw0]; omega)
 have hb1 := (Blk.new w 96 [.int .i64 (op : Int), .int .i64 3, .int .i64 1, .int .i64 0, .int .i64 0]).chg hc1 hn0
 have HC1 : Hid (Chg w w1 F) := hide (((Chg.refl w F).alloc _).trans hc1 (fun k hk => .inl hk))
 have HS1 : Hid (Sub F1 F w) := hide fun k hk => by
  rcases hs1 k hk with h | h
  · exact .inl h
  · exact .inr (by omega)
 have HK1 := hide hk1
 have HB1 := hide hb1
 have HN1 := hide hn1
 have hm2 := KR.load hk1 2 c (by decide) (by have := HCC.out; have := A1.out; omega) (by have := A3.out; show s.nc + 1 ≤ _; omega)
 clear hc1 hs1 hk1 hm hb1 hn1 hw0
 go_wp2_with (first | (go_at_call 78; refine (hsh _).mono ?_; rintro e w2 ⟨rfl, rfl⟩) | (go_at_call 293; refine hm2.mono ?_))
 rintro e w2 ⟨rfl, hc2, F2, hs2, hk2⟩
 have hn2 : w.heap.size ∉ F2 := far_sub hs2 HN1.out HB1.out.lt
 have hb2 := HB1.out.chg hc2 HN1.out
 have y3 := hb2.cell' (i := 3) rfl
 have f3 := hb2.frozen 3
 have hlt2 := hb2.lt
 have hx : Chg w2 (w2.setCell ⟨w.heap.size, 3, none⟩ (.int .i64 2)) [w.heap.size] := (Chg.refl w2 _).setCell _ _ (.inl (by simp))
 have hk3 := hk2.chg hx (fun k hk hm => hn2 (by simp at hm; exact hm ▸ hk)) (fun k hk => by simp at hk; have := HG.out; omega)
 have hb3 := hb2.set_ 3 (.int .i64 2)
 have HC2 : Hid (Chg w (w2.setCell ⟨w.heap.size, 3, none⟩ (.int .i64 2)) F) := hide ((HC1.out.trans hc2 (fun k hk => HS1.out k hk)).setCell _ _ (.inr (Nat.le_refl _)))
 have HS2 : Hid (Sub F2 F w) := hide (Sub.trans HS1.out hs2 HC1.out.size)
 have HX := hide (show ∀ W, W = w2.setCell ⟨w.heap.size, 3, none⟩ (.int .i64 2) → KR W b ((s.load 1 a).load 2 c) F2 ∧ Blk W w.heap.size 96 [.int .i64 (op : Int), .int .i64 3, .int .i64 1, .int .i64 2, .int .i64 0] ∧ Chg w W F from fun W e => e ▸ ⟨hk3, hb3, HC2.out⟩)
 clear hc2 hs2 hk2 hb2 hx hk3 hb3 hm2 hn2 HC2
 go_wp2_with fail
 go_upto_region 6 with (fail)
 generalize hW : w2.setCell ⟨w.heap.size, 3, none⟩ (.int .i64 2) = w3
 obtain ⟨⟨p, hp, hf, rfl⟩, hb3, hc3⟩ := HX.out w3 hW.symm
 have c0 := hp.blk.cell' (i := 0) rfl
 have x0 := hb3.cell' (i := 0) rfl
 have x1 := hb3.cell' (i := 1) rfl
 have x2 := hb3.cell' (i := 2) rfl
 have x3 := hb3.cell' (i := 3) rfl
 have x4 := hb3.cell' (i := 4) rfl
 have hin := KB.ins (hp.chg0 ((Chg.refl w3 []).drew)) ⟨op, 3, 1, 2, 0⟩ (by have q1 := HO1.out; have q2 := HO2.out; exact chk_do2 (op := (op : Int)) (by omega) (by omega)) (by have := A3.out; show s.nc + 2 ≤ _; omega)
 unfold insVal at hin
 have HC3 := hide hc3
 have HF := hide hf
 have hsz := hc3.size
 clear hp hb3 hc3 hf
 go_still_tail 5, (by kernel_rfl)
 change wpList _ _ _ _ _ w3.drew
 go_wp2_with fail
 go_at_call 47
 refine hin.mono ?_
 rintro e w4 ⟨rfl, hc4, p4, hp4, hf4, hs4⟩
 have c3 := hp4.blk.cell' (i := 3) rfl
 have hva : p4.fs (.int .i64 (a : Int)) = some (.bool (secAt s a)) := by rw [hf4]; exact HF.out a HA.out
 have hvc : p4.fs (.int .i64 (c : Int)) = some (.bool (secAt s c)) := by rw [hf4]; exact HF.out c HCC.out
 have hla := look_sec hp4.sec a (by have := HA.out; have := A1.out; omega) _ hva
 have hlc := look_sec hp4.sec c (by have := HCC.out; have := A1.out; omega) _ hvc
 have hFS : FsOk p4.fs (((s.load 1 a).load 2 c).ins ⟨op, 3, 1, 2, 0⟩) := by rw [hf4]; exact HF.out
 have hkp := fun sec => kept_calls ⟨p4, hp4, hFS, rfl⟩ 3 sec (by decide) (by have := A1.out; exact this) (by have := A2.out; show s.names + 1 ≤ _; omega) (by have := A3.out; show s.nc + 3 ≤ _; omega)
 have HC4 : Hid (Chg w w4 F) := hide ((HC3.out.drew).trans hc4 (fun k hk => HS2.out k hk))
 have HS4 : Hid (Sub (p4.foot b) F w) := hide (Sub.trans HS2.out hs4 (by have := HC3.out.size; exact this))
 clear hva hvc hc4 hp4 hs4 hin hf4 hFS c0 x0 x1 x2 x3 x4
 generalize secAt s a = sa at *
 generalize secAt s c = sc at *
 cases sa with
 | true =>
  go_wp2_with fail
  go_at_call 294
  refine (hkp _).mono ?_
  intro e w5 hq
  obtain ⟨rfl, hc5, F5, hs5, hk5⟩ := MkP.trans HC4.out HS4.out hq
  have HC5 := hide hc5
  have HS5 := hide hs5
  have HK5 := hide hk5
  clear hq hc5 hs5 hk5 hkp
  go_wp2
  go_ret
  exact ⟨rfl, HC5.out, F5, HS5.out, HK5.out⟩
 | false =>
  go_wp2_with fail
  go_at_call 294
  refine (hkp _).mono ?_
  intro e w5 hq
  obtain ⟨rfl, hc5, F5, hs5, hk5⟩ := MkP.trans HC4.out HS4.out hq
  have HC5 := hide hc5
  have HS5 := hide hs5
  have HK5 := hide hk5
  clear hq hc5 hs5 hk5 hkp
  go_wp2
  go_ret
  exact ⟨rfl, HC5.out, F5, HS5.out, HK5.out⟩
set_option maxRecDepth 100000 in
set_option maxHeartbeats 2000000 in
theorem do1_calls (h : KR w b s F) (op a c : Nat) (ho1 : 24 ≤ op) (ho2 : op ≤ 30) (ha : a < s.used) (hcc : c < s.used) (hcan : s.can 1 = true) :
 Calls Tryz.prog 289 #[.pointer (some ⟨b.a, 0, none⟩), .int .i64 (op : Int), .int .i64 (a : Int), .int .i64 (c : Int)] w (MkP (.int .i64 (s.used : Int)) (s.op op a c) b F w) := by
 obtain ⟨a1, a2, a3⟩ := can_iff hcan
 rw [op_one (by omega)]
 have A1 := hide a1
 have A2 := hide a2
 have A3 := hide a3
 have HA := hide ha
 have HCC := hide hcc
 have HO1 := hide ho1
 have HO2 := hide ho2
 have hq0 := fun k hk => h.lt k hk
 have HQ0 := hide hq0
 have HG := hide h.glo.size
 have hm := KR.load (h.chg0 ((Chg.refl w []).alloc (.cells #[.int .i64 (op : Int), .int .i64 3, .int .i64 1, .int .i64 0, .int .i64 0] 96))) 1 a (by decide) (by omega) (by omega)
 have hsh := fun W : World => shape_any (op : Int) W
 have hs : shp (op : Int) = [100, 97, 45, 45] := by rcases shp_cases (op : Int) with h | h | h | h | h | h | h | h | h | h <;> first | exact h.2 | omega
 rw [hs] at hsh
 clear hs h ha hcc a1 a2 a3 hcan ho1 ho2 hq0
 go_enter Tryz.func289, Tryz.ntmps289
 go_wp2_with (go_at_call 293; refine hm.mono ?_)
 rintro e w1 ⟨rfl, hc1, F1, hs1, hk1⟩
 have hw0 : (w.alloc (.cells #[.int .i64 (op : Int), .int .i64 3, .int .i64 1, .int .i64 0, .int .i64 0] 96)).heap.size = w.heap.size + 1 := size_alloc _ _
 have hn0 : w.heap.size ∉ F := fun hmm => by have := HQ0.out _ hmm; omega
 have hn1 : w.heap.size ∉ F1 := far_sub hs1 hn0 (by rw [hw0]; omega)
 have hb1 := (Blk.new w 96 [.int .i64 (op : Int), .int .i64 3, .int .i64 1, .int .i64 0, .int .i64 0]).chg hc1 hn0
 have HC1 : Hid (Chg w w1 F) := hide (((Chg.refl w F).alloc _).trans hc1 (fun k hk => .inl hk))
 have HS1 : Hid (Sub F1 F w) := hide fun k hk => by
  rcases hs1 k hk with h | h
  · exact .inl h
  · exact .inr (by omega)
 have HK1 := hide hk1
 have HB1 := hide hb1
 have HN1 := hide hn1
 clear hc1 hs1 hk1 hm hb1 hn1 hw0
 go_wp2_with (first | (go_at_call 78; refine (hsh _).mono ?_; rintro e w2 ⟨rfl, rfl⟩))
 go_upto_region 6 with (fail)
 have HS2 := HS1
 obtain ⟨⟨p, hp, hf, rfl⟩, hb3, hc3⟩ := (⟨HK1.out, HB1.out, HC1.out⟩ : KR w1 b (s.load 1 a) F1 ∧ Blk w1 w.heap.size 96 [.int .i64 (op : Int), .int .i64 3, .int .i64 1, .int .i64 0, .int .i64 0] ∧ Chg w w1 F)
 have c0 := hp.blk.cell' (i := 0) rfl
 have x0 := hb3.cell' (i := 0) rfl
 have x1 := hb3.cell' (i := 1) rfl
 have x2 := hb3.cell' (i := 2) rfl
 have x3 := hb3.cell' (i := 3) rfl
 have x4 := hb3.cell' (i := 4) rfl
 have hin := KB.ins (hp.chg0 ((Chg.refl w1 []).drew)) ⟨op, 3, 1, 0, 0⟩ (by have q1 := HO1.out; have q2 := HO2.out; exact chk_do1 (op := (op : Int)) (by omega) (by omega)) (by have := A3.out; show s.nc + 1 ≤ _; omega)
 unfold insVal at hin
 have HC3 := hide hc3
 have HF := hide hf
 have hsz := hc3.size
 clear hp hb3 hc3 hf
 go_still_tail 5, (by kernel_rfl)
 change wpList _ _ _ _ _ w1.drew
 go_wp2_with fail
 go_at_call 47
 refine hin.mono ?_
 rintro e w4 ⟨rfl, hc4, p4, hp4, hf4, hs4⟩
 have c3 := hp4.blk.cell' (i := 3) rfl
 have hva : p4.fs (.int .i64 (a : Int)) = some (.bool (secAt s a)) := by rw [hf4]; exact HF.out a HA.out
 have hvc : p4.fs (.int .i64 (c : Int)) = some (.bool (secAt s c)) := by rw [hf4]; exact HF.out c HCC.out
 have hla := look_sec hp4.sec a (by have := HA.out; have := A1.out; omega) _ hva
 have hlc := look_sec hp4.sec c (by have := HCC.out; have := A1.out; omega) _ hvc
 have hFS : FsOk p4.fs ((s.load 1 a).ins ⟨op, 3, 1, 0, 0⟩) := by rw [hf4]; exact HF.out
 have hkp := fun sec => kept_calls ⟨p4, hp4, hFS, rfl⟩ 3 sec (by decide) (by have := A1.out; exact this) (by have := A2.out; show s.names + 1 ≤ _; omega) (by have := A3.out; show s.nc + 2 ≤ _; omega)
 have HC4 : Hid (Chg w w4 F) := hide ((HC3.out.drew).trans hc4 (fun k hk => HS2.out k hk))
 have HS4 : Hid (Sub (p4.foot b) F w) := hide (Sub.trans HS2.out hs4 (by have := HC3.out.size; exact this))
 clear hva hvc hc4 hp4 hs4 hin hf4 hFS c0 x0 x1 x2 x3 x4
 generalize secAt s a = sa at *
 generalize secAt s c = sc at *
 cases sa with
 | true =>
  go_wp2_with fail
  go_at_call 294
  refine (hkp _).mono ?_
  intro e w5 hq
  obtain ⟨rfl, hc5, F5, hs5, hk5⟩ := MkP.trans HC4.out HS4.out hq
  have HC5 := hide hc5
  have HS5 := hide hs5
  have HK5 := hide hk5
  clear hq hc5 hs5 hk5 hkp
  go_wp2
  go_ret
  exact ⟨rfl, HC5.out, F5, HS5.out, HK5.out⟩
 | false =>
  go_wp2_with fail
  go_at_call 294
  refine (hkp _).mono ?_
  intro e w5 hq
  obtain ⟨rfl, hc5, F5, hs5, hk5⟩ := MkP.trans HC4.out HS4.out hq
  have HC5 := hide hc5
  have HS5 := hide hs5
  have HK5 := hide hk5
  clear hq hc5 hs5 hk5 hkp
  go_wp2
  go_ret
  exact ⟨rfl, HC5.out, F5, HS5.out, HK5.out⟩
theorem do_calls (h : KR w b s F) (op a c : Nat) (ho1 : 1 ≤ op) (ho2 : op ≤ 30) (ha : a < s.used) (hcc : c < s.used) (hcan : s.can 1 = true) :
 Calls Tryz.prog 289 #[.pointer (some ⟨b.a, 0, none⟩), .int .i64 (op : Int), .int .i64 (a : Int), .int .i64 (c : Int)] w (MkP (.int .i64 (s.used : Int)) (s.op op a c) b F w) := by
 by_cases h23 : op ≤ 23
 · exact do2_calls h op a c ho1 h23 ha hcc hcan
 · exact do1_calls h op a c (by omega) ho2 ha hcc hcan
end
end Go.Proofs.YthnhilghjadigaaGreatDoor

/- emit.Maker: what is inside of a loop; a loop's states. -/
namespace Go.Proofs.YthnhilghjadigaaGreatDoor
open Go.RowKit Go.Deep Go.Maps Go.Proofs.YthnhilghjadigaaGreatDoor.Ab
set_option linter.unusedVariables false
attribute [local go_sem] Oper.semAt_some
def inL (s : KS) (d n : Nat) : KS := { s with rc := ⟨31, (9 + 2 * d : Nat), 0, 0, n⟩ :: ⟨31, (8 + 2 * d : Nat), 0, 0, 0⟩ :: s.rc, nc := s.nc + 2, rd := (s.names + 1, s.nc + 2) :: s.rd, names := s.names + 1 }
theorem beg_eq (s : KS) (n : Nat) : s.beg n = (inL { (s.room 1 false) with depth := s.depth + 1 } s.depth n).store (8 + 2 * s.depth) s.used := rfl
theorem fin_eq {s : KS} {d : Nat} (h : s.depth = d + 1) (k : Nat) : s.fin k = { s with rc := ⟨38, (8 + 2 * d : Nat), (9 + 2 * d : Nat), 0, 0⟩ :: ⟨31, (8 + 2 * d : Nat), (8 + 2 * d : Nat), 0, 1⟩ :: s.rc, nc := s.nc + 2, ru := (k, s.nc + 1) :: s.ru, depth := d } := by
 unfold KS.fin
 rw [h, show 6 + 2 * (d + 1) = 8 + 2 * d by omega, show 7 + 2 * (d + 1) = 9 + 2 * d by omega, Nat.add_sub_cancel]
theorem findP_none {j : Nat} : ∀ {l : List (Nat × Nat)}, (∀ p ∈ l, p.1 ≠ j) → findP l j = none
 | [], _ => rfl
 | (i, a) :: l, h => by
  unfold findP
  have h1 : Nat.beq i j = false := by
   cases hb : Nat.beq i j with
   | false => rfl
   | true => exact absurd (Nat.eq_of_beq_eq_true hb) (h (i, a) List.mem_cons_self)
  rw [h1]
  exact findP_none fun p hp => h p (List.mem_cons_of_mem _ hp)
theorem loop_is {d n : Nat} (hd : d ≤ 10) (h1 : 1 ≤ n) (h2 : n ≤ 32767) : loopB ((8 + 2 * d : Nat) : Int) ((9 + 2 * d : Nat) : Int) (n : Int) = true := by
 rw [loopB_iff, regB_iff, regB_iff]
 omega
theorem open_eq {s : KS} (h : s.WF) {d n : Nat} (hd : d ≤ 10) (h1 : 1 ≤ n) (h2 : n ≤ 32767) (hn : s.names + 1 ≤ 100000) :
 openM ({ s with names := s.names + 1 } : KS).bm ((8 + 2 * d : Nat) : Int) ((9 + 2 * d : Nat) : Int) (n : Int) (lName (s.names + 1)) = (0, (inL s d n).bm) := by
 have hf : findL ({ s with names := s.names + 1 } : KS).bm.defs (lName (s.names + 1)) = none := by
  have := findL_l (s.names + 1) s.rd.reverse
  show findL (s.rd.reverse.map nmP) _ = none
  rw [this, findP_none fun p hp => ?_]
  · rfl
  · have := h.lab p (List.mem_reverse.1 hp)
    omega
 unfold openM
 rw [if_neg (by rw [loop_is hd h1 h2]; decide), if_neg (by rw [isL_l (by omega)]; decide), hf, if_neg (by decide)]
 have hl : (({ s with names := s.names + 1 } : KS).bm.code.length : Int) = (s.nc : Int) := by
  show ((s.rc.reverse.length : Nat) : Int) = _
  rw [List.length_reverse, ← h.nc]
 rw [hl]
 unfold KS.bm inL
 simp
theorem close_eq {s : KS} (h : s.WF) (d k : Nat) : closeM s.bm ((8 + 2 * d : Nat) : Int) ((9 + 2 * d : Nat) : Int) (lName k) = ({ s with rc := ⟨38, (8 + 2 * d : Nat), (9 + 2 * d : Nat), 0, 0⟩ :: ⟨31, (8 + 2 * d : Nat), (8 + 2 * d : Nat), 0, 1⟩ :: s.rc, nc := s.nc + 2, ru := (k, s.nc + 1) :: s.ru } : KS).bm := by
 unfold closeM
 have hl : (s.bm.code.length : Int) = (s.nc : Int) := by
  show ((s.rc.reverse.length : Nat) : Int) = _
  rw [List.length_reverse, ← h.nc]
 rw [hl]
 unfold KS.bm
 simp
theorem inL_WF {s : KS} (h : s.WF) {d n : Nat} (hn : s.names + 1 ≤ 100000) (hc : s.nc ≤ 799990) : (inL s d n).WF :=
 { h with
   nc := by show s.nc + 2 = s.rc.length + 2; rw [h.nc]
   names := hn
   cap := Nat.le_succ_of_le h.cap
   reg := fun p hp => Nat.le_succ_of_le (h.reg p hp)
   code := by show s.nc + 2 ≤ _; omega
   defs := Nat.succ_le_succ h.defs
   lab := fun p hp => by
    rcases List.mem_cons.1 hp with rfl | hp
    · exact Nat.le_refl _
    · exact Nat.le_succ_of_le (h.lab p hp)
   uses := Nat.le_trans h.uses (Nat.le_add_right _ _) }
theorem finWF {s : KS} (h : s.WF) {d k : Nat} (hd : d ≤ 11) (hc : s.nc ≤ 799990) : ({ s with rc := ⟨38, (8 + 2 * d : Nat), (9 + 2 * d : Nat), 0, 0⟩ :: ⟨31, (8 + 2 * d : Nat), (8 + 2 * d : Nat), 0, 1⟩ :: s.rc, nc := s.nc + 2, ru := (k, s.nc + 1) :: s.ru, depth := d } : KS).WF :=
 { h with
   nc := by show s.nc + 2 = s.rc.length + 2; rw [h.nc]
   code := by show s.nc + 2 ≤ _; omega
   uses := by show s.ru.length + 1 ≤ s.nc + 2; have := h.uses; omega
   dep := hd }
set_option maxRecDepth 100000 in
theorem inner_maker {w : World} {b : MP} {s : KS} {F : List Nat} (h : KR w b s F) (k3 k6 k7 k5 c i : Nat) (bf : FuncId) (f : Array Value) (cap : Array Value) (s2 : KS)
 (b3 : Blk w k3 46 [.pointer (some ⟨b.a, 0, none⟩)]) (b6 : Blk w k6 3 [.int .i64 (c : Int)]) (b7 : Blk w k7 3 [.int .i64 (i : Int)]) (b5 : Blk w k5 93 [.func (.func bf) f cap])
 (n5 : k5 ∉ F) (n7 : k7 ∉ F) (hc : c ≤ 31) (hi : i ≤ 2048) (hn : s.nc ≤ 799990) (hcl : ∀ (args : Array Value) (W : World), (callFunc bf args).run Tryz.prog W = .ok (.enter bf args) W)
 (hdo : ∀ w1 F1, KR w1 b (s.store c i) F1 → Chg w w1 F → Sub F1 F w → Calls Tryz.prog bf (f ++ #[.int .i64 (i : Int)] ++ cap) w1 (MkP (.tuple #[]) s2 b F1 w1)) :
 Calls Tryz.prog 296 #[.pointer (some ⟨k3, 0, none⟩), .pointer (some ⟨k6, 0, none⟩), .pointer (some ⟨k7, 0, none⟩), .pointer (some ⟨k5, 0, none⟩)] w (MkP (.tuple #[]) s2 b F w) := by
 have hst := KR.store h c i hc hi (by omega)
 have x3 := b3.cell' (i := 0) rfl
 have x6 := b6.cell' (i := 0) rfl
 have x7 := b7.cell' (i := 0) rfl
 have B5 := hide b5
 have B7 := hide b7
 have N5 := hide n5
 have N7 := hide n7
 have HDO := hide hdo
 clear h b3 b6 b7 b5 n5 n7 hdo
 go_enter Tryz.func296, Tryz.ntmps296
 go_wp2_with (go_at_call 297; refine hst.mono ?_)
 rintro e w1 ⟨rfl, hc1, F1, hs1, hk1⟩
 have y5 := (B5.out.chg hc1 N5.out).cell' (i := 0) rfl
 have y7 := (B7.out.chg hc1 N7.out).cell' (i := 0) rfl
 have HQ := hide (HDO.out w1 F1 hk1 hc1 hs1)
 have HC1 := hide hc1
 have HS1 := hide hs1
 clear hc1 hs1 hk1 hst
 go_wp2_with fail
 first | refine HQ.out.mono ?_ | (have hq := HQ.out; simp only [Array.append_assoc] at hq ⊢; refine hq.mono ?_) | fail
 intro e w2 hq
 obtain ⟨rfl, hc2, F2, hs2, hk2⟩ := MkP.trans HC1.out HS1.out hq
 have HC2 := hide hc2
 have HS2 := hide hs2
 have HK2 := hide hk2
 clear hq hc2 hs2 hk2
 go_wp2
 refine bodyPost_end (results_none rfl _ _ _) rfl ?_
 exact ⟨rfl, HC2.out, F2, HS2.out, HK2.out⟩
end Go.Proofs.YthnhilghjadigaaGreatDoor

/- emit.Maker: Loop. -/
namespace Go.Proofs.YthnhilghjadigaaGreatDoor
open Go Go.RowKit Go.Deep Go.Maps Go.Proofs.YthnhilghjadigaaGreatDoor.Ab Go.Proofs.YthnhilghjadigaaGreatDoor.Xi
set_option linter.unusedVariables false
attribute [local go_sem] Oper.semAt_some
def vLp (b bb k3 k6 k7 k5 c n names : Nat) : Nat → Value
 | 0 => .pointer (some ⟨b, 0, none⟩)
 | 1 => .pointer (some ⟨b, 0, none⟩)
 | 2 => .pointer (some ⟨b, 0, none⟩)
 | 3 => .pointer (some ⟨bb, 0, none⟩)
 | 4 => .int .i64 (c : Int)
 | 5 => .int .i64 (c : Int)
 | 6 => .int .i64 ((c + 1 : Nat) : Int)
 | 7 => .int .i64 (n : Int)
 | 8 => .pointer (some ⟨b, 0, none⟩)
 | 9 => .string ⟨(108 :: decN8 (names + 1)).toArray⟩
 | 10 => .func (.func 296) #[] #[.pointer (some ⟨k3, 0, none⟩), .pointer (some ⟨k6, 0, none⟩), .pointer (some ⟨k7, 0, none⟩), .pointer (some ⟨k5, 0, none⟩)]
 | 11 => .int .i64 0
 | _ => undef
theorem putsLp (v : Nat → Value) (t0 t1 t2 t3 t4 t5 t6 t7 t8 t9 t10 t11 t12 t13 t14 t15 t16 t17 t18 t19 t20 t21 t22 t23 t24 t25 t26 t27 t28 t29 t30 t31 t32 t33 t34 t35 t36 t37 t38 t39 t40 t41 : Value) : putsD v (some 23 :: some 24 :: some 25 :: some 26 :: some 27 :: some 28 :: some 29 :: some 30 :: some 31 :: some 32 :: some 33 :: some 34 :: []) 0 (t0 :: t1 :: t2 :: t3 :: t4 :: t5 :: t6 :: t7 :: t8 :: t9 :: t10 :: t11 :: t12 :: t13 :: t14 :: t15 :: t16 :: t17 :: t18 :: t19 :: t20 :: t21 :: t22 :: t23 :: t24 :: t25 :: t26 :: t27 :: t28 :: t29 :: t30 :: t31 :: t32 :: t33 :: t34 :: t35 :: t36 :: t37 :: t38 :: t39 :: t40 :: t41 :: []) = (t0 :: t1 :: t2 :: t3 :: t4 :: t5 :: t6 :: t7 :: t8 :: t9 :: t10 :: t11 :: t12 :: t13 :: t14 :: t15 :: t16 :: t17 :: t18 :: t19 :: t20 :: t21 :: t22 :: v 0 :: v 1 :: v 2 :: v 3 :: v 4 :: v 5 :: v 6 :: v 7 :: v 8 :: v 9 :: v 10 :: v 11 :: t35 :: t36 :: t37 :: t38 :: t39 :: t40 :: t41 :: []) := by kernel_rfl
theorem run_loop1 (caps : Array Value) (W : World) : (callFunc 296 caps).run Tryz.prog W = .ok (.enter 296 caps) W := by kernel_rfl
def LoopQ (b : MP) (s2 : KS) (p : KP) (w0 : World) (w2 : World) (bm2 : BM) (F2 : List Nat) : Prop :=
 ∃ p2, KB w2 b p2 s2 ∧ FsOk p2.fs s2 ∧ bm2 = s2.bm ∧ F2 = p2.FB ∧ Chg w0 w2 (p.foot b.a) ∧ Sub (p2.foot b.a) (p.foot b.a) w0
section
variable {w : World} {b : MP} {s : KS} {p : KP}
theorem bloop_calls (h : KB w b p s) (hf : FsOk p.fs s) (hnm : 1 ≤ s.names) {d n : Nat} (hd : d ≤ 10) (h1 : 1 ≤ n) (h2 : n ≤ 32767) (hc : s.nc ≤ 799980) (k3 k6 k7 k5 i : Nat) (bf : FuncId) (f cap : Array Value) (s2 : KS)
 (hop : openM s.bm ((8 + 2 * d : Nat) : Int) ((9 + 2 * d : Nat) : Int) (n : Int) (lName s.names) = (0, (inL { s with names := s.names - 1 } d n).bm)) (hwf : (inL { s with names := s.names - 1 } d n).WF)
 (b3 : Blk w k3 46 [.pointer (some ⟨b.a, 0, none⟩)]) (b6 : Blk w k6 3 [.int .i64 ((8 + 2 * d : Nat) : Int)]) (b7 : Blk w k7 3 [.int .i64 (i : Int)]) (b5 : Blk w k5 93 [.func (.func bf) f cap])
 (hk : ∀ k ∈ [k3, k6, k7, k5], k ∉ p.foot b.a) (hi : i ≤ 2048) (hcl : ∀ (args : Array Value) (W : World), (callFunc bf args).run Tryz.prog W = .ok (.enter bf args) W) (hc2 : s2.nc ≤ 799990)
 (hdo : ∀ w1 F1, KR w1 b ((inL { s with names := s.names - 1 } d n).store (8 + 2 * d) i) F1 → Chg w w1 (p.foot b.a) → Sub F1 (p.foot b.a) w → Calls Tryz.prog bf (f ++ #[.int .i64 (i : Int)] ++ cap) w1 (MkP (.tuple #[]) s2 b F1 w1)) :
 Calls Tryz.prog 295 #[.pointer (some ⟨p.bb, 0, none⟩), .int .i64 ((8 + 2 * d : Nat) : Int), .int .i64 ((9 + 2 * d : Nat) : Int), .int .i64 (n : Int), strV (lName s.names), .func (.func 296) #[] #[.pointer (some ⟨k3, 0, none⟩), .pointer (some ⟨k6, 0, none⟩), .pointer (some ⟨k7, 0, none⟩), .pointer (some ⟨k5, 0, none⟩)]] w
  fun e w' => e = .returned (.int .i64 0) ∧ Chg w w' (p.foot b.a) ∧ ∃ p3, KB w' b p3 { s2 with rc := ⟨38, (8 + 2 * d : Nat), (9 + 2 * d : Nat), 0, 0⟩ :: ⟨31, (8 + 2 * d : Nat), (8 + 2 * d : Nat), 0, 1⟩ :: s2.rc, nc := s2.nc + 2, ru := (s.names, s2.nc + 1) :: s2.ru } ∧ FsOk p3.fs s2 ∧ Sub (p3.foot b.a) (p.foot b.a) w := by
 have hlen : (lName s.names).length ≤ 1000000 := by
  have := dec_len (u := s.names) (by have := h.wf.names; omega)
  unfold lName decN8
  rw [Lib.itoa_nonneg]
  simp only [List.length_cons]
  omega
 have hcode : s.bm.code.length ≤ 800000 := by
  show s.rc.reverse.length ≤ _
  rw [List.length_reverse, ← h.wf.nc]; omega
 have hdefs : s.bm.defs.length ≤ 1000000 := by
  show (s.rd.reverse.map _).length ≤ _
  rw [List.length_map, List.length_reverse]
  have := h.wf.defs; have := h.wf.names; omega
 have hdoP : DoP 296 #[.pointer (some ⟨k3, 0, none⟩), .pointer (some ⟨k6, 0, none⟩), .pointer (some ⟨k7, 0, none⟩), .pointer (some ⟨k5, 0, none⟩)] (LoopQ b s2 p w) (openM s.bm ((8 + 2 * d : Nat) : Int) ((9 + 2 * d : Nat) : Int) (n : Int) (lName s.names)) p.bb p.FB w := by
  intro _ w1 F1 hc1 hs1 hp1
  rw [hop] at hp1
  have hs : ({ s with rc := (inL { s with names := s.names - 1 } d n).rc, nc := (inL { s with names := s.names - 1 } d n).nc, rd := (inL { s with names := s.names - 1 } d n).rd, ru := s.ru } : KS) = inL { s with names := s.names - 1 } d n := by
   unfold inL
   simp only [Nat.sub_add_cancel hnm]
  have hkb := h.bldr hc1 hs1 hp1 (inL { s with names := s.names - 1 } d n).rc (inL { s with names := s.names - 1 } d n).nc (inL { s with names := s.names - 1 } d n).rd s.ru (by rw [hs]) (by rw [hs]; exact hwf)
  rw [hs] at hkb
  have hcf : Chg w w1 (p.foot b.a) := hc1.more fun k hk => .inl (KP.mem_part (i := 1) hk)
  have hsf : Sub (KP.foot b.a { p with FB := F1 }) (p.foot b.a) w := KB.bldr_foot hs1
  have hkr : KR w1 b (inL { s with names := s.names - 1 } d n) (KP.foot b.a { p with FB := F1 }) := ⟨_, hkb, hf, rfl⟩
  have nk : ∀ k ∈ [k3, k6, k7, k5], k < w.heap.size → k ∉ KP.foot b.a { p with FB := F1 } := fun k hkm hlt => far_sub hsf (hk k hkm) hlt
  have nb : ∀ k ∈ [k3, k6, k7, k5], k ∉ p.FB := fun k hkm hm => hk k hkm (KP.mem_part (i := 1) hm)
  refine (inner_maker hkr k3 k6 k7 k5 (8 + 2 * d) i bf f cap s2 (b3.chg hc1 (nb _ (by simp))) (b6.chg hc1 (nb _ (by simp))) (b7.chg hc1 (nb _ (by simp))) (b5.chg hc1 (nb _ (by simp))) (nk _ (by simp) b5.lt) (nk _ (by simp) b7.lt) (by omega) hi (by show s.nc + 2 ≤ _; omega) hcl fun w2 F2 hk2 hc2 hs2 => ?_).mono ?_
  · exact hdo w2 F2 hk2 (hcf.trans hc2 (fun k hk => hsf k hk)) (Sub.trans hsf hs2 hcf.size)
  · intro e w2 hq
    obtain ⟨rfl, hcq, F2, hsq, p2, hk2, hf2, rfl⟩ := MkP.trans hcf hsf hq
    refine ⟨⟨_, rfl⟩, s2.bm, p2.FB, ?_, ?_, ?_, p2, hk2, hf2, rfl, rfl, hcq, hsq⟩
    · have := hk2.bld
      rw [hk2.bbq, ← h.bbq] at this
      exact this
    · show s2.rc.reverse.length ≤ _
      rw [List.length_reverse, ← hk2.wf.nc]; omega
    · show (s2.ru.reverse.map _).length ≤ _
      rw [List.length_map, List.length_reverse]
      have := hk2.wf.uses; have := hk2.wf.code; omega
 refine (loop_calls h.bld _ _ _ (lName s.names) 296 _ _ hlen hcode hdefs (run_loop1 _) hdoP).mono ?_
 intro e w' hq
 obtain ⟨w2, bm2, F2, ⟨p2, hk2, hf2, rfl, rfl, hcq, hsq⟩, rfl, hcg, F3, hs3, hp3⟩ := hq.1 (by rw [hop])
 rw [close_eq hk2.wf, h.bbq, ← hk2.bbq] at hp3
 have hW := finWF (k := s.names) hk2.wf (d := d) (by omega) hc2
 have hW2 : ({ s2 with rc := ⟨38, (8 + 2 * d : Nat), (9 + 2 * d : Nat), 0, 0⟩ :: ⟨31, (8 + 2 * d : Nat), (8 + 2 * d : Nat), 0, 1⟩ :: s2.rc, nc := s2.nc + 2, ru := (s.names, s2.nc + 1) :: s2.ru } : KS).WF := { hW with dep := hk2.wf.dep }
 have hk3 := hk2.bldr hcg hs3 hp3 _ _ s2.rd _ rfl hW2
 have hcg' : Chg w2 w' (p2.foot b.a) := hcg.more fun k hk => .inl (KP.mem_part (i := 1) hk)
 exact ⟨rfl, hcq.trans hcg' (fun k hk => hsq k hk), _, hk3, hf2, Sub.trans hsq (KB.bldr_foot hs3) hcq.size⟩
end
end Go.Proofs.YthnhilghjadigaaGreatDoor
