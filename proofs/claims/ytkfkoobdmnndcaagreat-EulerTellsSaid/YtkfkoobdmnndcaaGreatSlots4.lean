/- Regions by slots, once more: quiet calls that are counted, a new list that is handed to the mill's tables; the mill's methods at exact cells. -/
import Derived.Test.YtkfkoobdmnndcaaGreatSlots3
namespace Go.Proofs.YtkfkoobdmnndcaaGreat
open Go.RowKit Go.Deep
set_option linter.unusedVariables false
section
variable {w6 w w' : World} {b k : Nat} {R : Nat → List Wd → List Value → Prop} {D U : List Nat} {cells : List (Addr × Value)}
/-- A quiet call that is counted. -/
theorem Sp.skip (h : Sp w6 b R D cells k w) (hc : Chg w w' []) (hR : ∀ c t, R k c t → R (k + 1) c t) : Sp w6 b R D cells (k + 1) w' :=
  ⟨(h.pl.mono hR).chg hc (by simp), h.chg.trans hc (by simp), by rw [dof_chg h.pl hc (by simp)]; exact h.sub, fun p hp => hc.cell (h.cell p hp) (by simp)⟩
end
/-- The list at g of n elements, as a value. -/
def slv (g n : Nat) : Value := .slice (some ⟨g, 0, none⟩) n n
/-- The mill's tables, with a new list L behind them once k is 1. -/
structure SpT (w6 : World) (b : Nat) (cs : List Wd) (ts : List Value) (T : TypeId) (L : List Value) (n : Nat) (D : List Nat) (cells : List (Addr × Value)) (k : Nat) (w : World) : Prop where
  sp : Sp w6 b (fun k c t => c = cs ∧ (k = 0 → t = ts)) D cells k w
  tb : 1 ≤ k → ∃ g, PlR w b (fun c t => c = cs ∧ t = ts ++ [slv g n]) ∧ w6.heap.size ≤ g ∧ Blk w g T L ∧ g ∉ dof w b
section
variable {w6 w w' : World} {b k n : Nat} {cs : List Wd} {ts : List Value} {T : TypeId} {L : List Value} {D U : List Nat} {cells : List (Addr × Value)}
theorem SpT.start (hp : PlR w6 b (fun c t => c = cs ∧ t = ts)) (hc : ∀ p ∈ cells, w6.cell? p.1 = some p.2) : SpT w6 b cs ts T L n D cells 0 w6.drew :=
  ⟨Sp.start (hp.mono fun c t h => ⟨h.1, fun _ => h.2⟩) hc, fun h => by omega⟩
theorem SpT.at_ (h : SpT w6 b cs ts T L n D cells k w) (i : Nat) (a : Addr) (v : Value) (hi : cells[i]? = some (a, v)) : w.cell? a = some v := h.sp.at_ i a v hi
theorem SpT.call (h : SpT w6 b cs ts T L n D cells k w) (hc : Chg w w' []) : SpT w6 b cs ts T L n D cells k w' := by
  refine ⟨h.sp.call hc, fun hk => ?_⟩
  obtain ⟨g, h1, h2, h3, h4⟩ := h.tb hk
  exact ⟨g, h1.chg hc (by simp), h2, h3.chg hc (by simp), by rw [dof_chg h1 hc (by simp)]; exact h4⟩
theorem SpT.hand (h : SpT w6 b cs ts T L n D cells 0 w) (ha : Apart w6 b D U cells) {g : Nat} (hg : w6.heap.size ≤ g) (hb : Blk w g T L) (hf : g ∉ dof w b)
    (hp : PlR w' b (fun c t => c = cs ∧ t = ts ++ [slv g n])) (ht : Turn w b w') : SpT w6 b cs ts T L n D cells 1 w' :=
  ⟨h.sp.eff ha (hp.mono fun c t h => ⟨h.1, fun h0 => by cases h0⟩) ht, fun _ => ⟨g, hp, hg, hb.chg ht.chg hf, ht.far hb.lt hf⟩⟩
def Reg.putsB (r : Reg) (n : Nat) (T : TypeId) : Bool := (List.range n).all fun i => match r.kd i with
  | .put j _ => (match r.kd j with | .new T' _ => T' != T | _ => true)
  | _ => true
theorem kdOf_put {m : Nat} {KL : List Kd} {olds : List (TypeId × List Value)} {i j : Nat} {c : List Value} (h : kdOf m KL olds i = .put j c) : i < m := by
  unfold kdOf at h
  by_cases hi : i < m
  · exact hi
  · rw [if_neg hi] at h
    split at h <;> cases h
theorem Reg.of_put {m : Nat} {ops : Array Oper} {a0 : Act} {VL : List Value} {NL : List (Nat → Value)} {KL : List Kd} {olds : List (TypeId × List Value)} {OL : List Nat} {E : List Nat} {S : Nat → World → Prop} {F : World → Nat → Prop} {i j : Nat} {c : List Value}
    (h : (Reg.of m ops a0 VL NL KL olds OL E S F).kd i = .put j c) : i < m := by
  have h' : kdOf m KL olds i = .put j c := h
  exact kdOf_put h'
theorem Reg.putsB_spec {r : Reg} {m : Nat} {T : TypeId} (h : r.putsB m T = true) (hlt : ∀ i j c, r.kd i = .put j c → i < m) : ∀ i j T' c0 c1, r.kd i = .put j c1 → r.kd j = .new T' c0 → T' ≠ T := by
  intro i j T' c0 c1 h1 h2
  unfold Reg.putsB at h
  have := List.all_eq_true.1 h i (List.mem_range.2 (hlt i j c1 h1))
  rw [h1] at this
  simp only [h2] at this
  simpa using this
theorem stands_t (r : Reg) (ha : Apart w6 b D U cells) (hS : r.S = SpT w6 b cs ts T L n D cells) (hF : r.F = Fp w6 b D U) (hB : r.B = 0) (hput : ∀ i j T' c0 c1, r.kd i = .put j c1 → r.kd j = .new T' c0 → T' ≠ T) : r.Stands := by
  refine ⟨fun n w o h => ?_, fun n w o g h hf => ?_, fun n w o h => ?_, fun n w w' g h hf _ ht hc hsz => ?_⟩
  · rw [hS] at h ⊢; exact h.call ((Chg.refl w []).alloc o)
  · rw [hS] at h; rw [hF] at hf ⊢
    exact ⟨hf.1, by rw [dof_chg h.sp.pl ((Chg.refl w []).alloc o) (by simp)]; exact hf.2.1, hf.2.2⟩
  · rw [hS] at h
    rw [hF, hB]
    have := h.sp.chg.size
    refine ⟨⟨fun hu => ?_, fun hm => ?_, .inr this⟩, Nat.zero_le _⟩
    · have := ha.lt _ hu; omega
    · rw [dof_chg h.sp.pl ((Chg.refl w []).alloc o) (by simp)] at hm
      have := h.sp.pl.lt _ hm; omega
  · rw [hS] at h ⊢
    rw [hF] at hf ⊢
    have hbg : b ∉ [g] := fun hm => by
      simp at hm; subst hm; exact hf.2.1 h.sp.pl.mem
    have hd := dof_chg h.sp.pl hc hbg
    refine ⟨⟨⟨h.sp.pl.chg hc (fun j hj hm => by simp at hm; subst hm; exact hf.2.1 hj), h.sp.chg.trans hc ?_, by rw [hd]; exact h.sp.sub, fun p hp => ?_⟩, fun hk => ?_⟩, fun g' h' => ⟨h'.1, by rw [hd]; exact h'.2.1, h'.2.2⟩⟩
    · intro j hj
      simp at hj
      subst hj
      exact hf.2.2.imp (fun h => List.mem_append_right _ h) id
    · exact hc.cell (h.sp.cell p hp) (by simp; intro e; exact hf.1 (e ▸ ha.cell p hp))
    · obtain ⟨q, h1, h2, h3, h4⟩ := h.tb hk
      obtain ⟨i, j, T', c0, c1, c, hk1, hk2, hb'⟩ := ht
      have hne : q ≠ g := h3.ne_ hb' (Ne.symm (hput i j T' c0 c1 hk1 hk2))
      exact ⟨q, h1.chg hc (fun j hj hm => by simp at hm; subst hm; exact hf.2.1 hj), h2, h3.chg hc (by simpa using hne), by rw [hd]; exact h4⟩
end
/-- The mill's methods at exact cells. -/
theorem cellm_calls (b m : Nat) (x : Wd) (cs : List Wd) (ts : List Value) (w : World) (hm : Hid (m = cs.length)) (h : PlR w b (fun c t => t = ts ∧ c = cs)) (hb : cs.length ≤ 1000) :
    Calls Tryz.prog 138 #[.pointer (some ⟨b, 0, none⟩), .int .i32 x.v] w fun e w' => e = .returned (.int .i64 m) ∧ PlR w' b (fun c t => t = ts ∧ c = cs ++ [x]) ∧ Turn w b w' := by
  obtain ⟨cs1, ts1, vc, vt, ⟨rfl, rfl⟩, hP⟩ := h
  refine (cell_calls b x _ _ _ _ w hP hb).mono ?_
  rintro e w' ⟨rfl, vc', hP', hc, hv⟩
  exact ⟨by rw [hm.out], ⟨_, _, _, _, ⟨rfl, rfl⟩, hP'⟩, turn_of hP hP' hc hv (.inl rfl)⟩
theorem getm_calls (b k : Nat) (x : Wd) (cs : List Wd) (ts : List Value) (w : World) (hk : cs[k]? = some x) (h : PlR w b (fun c t => t = ts ∧ c = cs)) (hb : cs.length ≤ 1000) :
    Calls Tryz.prog 142 #[.pointer (some ⟨b, 0, none⟩), .int .i64 k] w fun e w' => e = .returned (.int .i32 x.v) ∧ Chg w w' [] := by
  obtain ⟨cs1, ts1, vc, vt, ⟨rfl, rfl⟩, hP⟩ := h
  obtain ⟨hlt, hx⟩ := List.getElem?_eq_some_iff.1 hk
  refine (get_calls b k _ _ _ _ w hP hlt hb).mono ?_
  rintro e w' ⟨rfl, hc⟩
  exact ⟨by rw [hx], hc⟩
theorem setm_calls (b k : Nat) (x : Wd) (cs cs' : List Wd) (ts : List Value) (w : World) (hk : k < cs.length) (hs : cs.set k x = cs') (h : PlR w b (fun c t => t = ts ∧ c = cs)) (hb : cs.length ≤ 1000) :
    Calls Tryz.prog 144 #[.pointer (some ⟨b, 0, none⟩), .int .i64 k, .int .i32 x.v] w fun e w' => e = .returned (.tuple #[]) ∧ PlR w' b (fun c t => t = ts ∧ c = cs') ∧ Turn w b w' := by
  obtain ⟨cs1, ts1, vc, vt, ⟨rfl, rfl⟩, hP⟩ := h
  refine (set_calls b k x _ _ _ _ w hP hk hb).mono ?_
  rintro e w' ⟨rfl, hP', hc⟩
  rw [hs] at hP'
  exact ⟨rfl, ⟨_, _, _, _, ⟨rfl, rfl⟩, hP'⟩, turn_of hP hP' hc (.inl rfl) (.inl rfl)⟩
theorem tablem_calls (b m g n : Nat) (cs : List Wd) (ts : List Value) (w : World) (hm : Hid (m = ts.length)) (h : PlR w b (fun c t => c = cs ∧ t = ts)) (hb : ts.length ≤ 1000) :
    Calls Tryz.prog 145 #[.pointer (some ⟨b, 0, none⟩), .slice (some ⟨g, 0, none⟩) n n] w fun e w' => e = .returned (.int .i64 m) ∧ PlR w' b (fun c t => c = cs ∧ t = ts ++ [slv g n]) ∧ Turn w b w' := by
  obtain ⟨cs1, ts1, vc, vt, ⟨rfl, rfl⟩, hP⟩ := h
  refine (table_calls b _ rfl _ _ _ rfl _ _ _ _ w hP hb).mono ?_
  rintro e w' ⟨rfl, vt', hP', hc, hv⟩
  exact ⟨by rw [hm.out], ⟨_, _, _, _, ⟨rfl, rfl⟩, hP'⟩, turn_of hP hP' hc (.inl rfl) hv⟩
theorem atm_calls (b k i n g : Nat) (iw x : Wd) (l : List Wd) (T : TypeId) (ts : List Value) (R : List Wd → List Value → Prop) (w : World) (h : PlR w b R) (hR : ∀ c t, R c t → t = ts) (hk : ts[k]? = some (slv g n)) (hbl : Blk w g T (wds l)) (hn : n = l.length) (hi : iw.v = i) (hx : l[i]? = some x) (hb : ts.length ≤ 1000) (hl : l.length ≤ 1000) :
    Calls Tryz.prog 137 #[.pointer (some ⟨b, 0, none⟩), .int .i64 k, .int .i32 iw.v] w fun e w' => e = .returned (.int .i32 x.v) ∧ Chg w w' [] := by
  obtain ⟨cs1, ts1, vc, vt, hr, hP⟩ := h
  obtain rfl := hR _ _ hr
  obtain ⟨hlt, hx⟩ := List.getElem?_eq_some_iff.1 hx
  rw [hi]
  refine (at_calls b k i l _ _ _ _ _ w hP hk (Sl.blk' hbl (by simp [wds, hn]) (Nat.le_refl _)) hlt hb hl).mono ?_
  rintro e w' ⟨rfl, hc⟩
  exact ⟨by rw [hx], hc⟩
end Go.Proofs.YtkfkoobdmnndcaaGreat
