/- BuildPlays: the inside of a loop. -/
import Derived.Test.YtjfnpokebaagmaaGreatDoorDoB
namespace Go.Proofs.YtjfnpokebaagmaaGreatDoor
open Go.RowKit Go.Deep Go.Maps
set_option linter.unusedVariables false
attribute [local go_sem] Oper.semAt_some
def DoesP (tb b x : Nat) (l : List ActL) (j0 k : Nat) (F : List Nat) (w : World) (e : Ending) (w' : World) : Prop :=
  ∃ (j : Nat) (bm : BM), e = .returned (.int .i64 j) ∧ j0 ≤ j ∧ j ≤ l.length ∧ After w w' tb b x bm bm F ∧ Siz bm j k
def DoesAt (tb b x : Nat) (A : Option Addr) (c : Nat) (l : List ActL) (m : Nat) : Prop := ∀ (j0 dep k : Nat) (bm : BM) (F : List Nat) (w : World),
    l.length - j0 ≤ m → j0 ≤ l.length → dep ≤ 7 → ST w tb b x bm bm F → Siz bm j0 k → ASl w A l → (0 < l.length → ∀ a, A = some a → a.block ∉ F) →
    Calls Tryz.prog 7 #[.pointer (some ⟨tb, 0, none⟩), .slice A l.length c, .int .i64 j0, .int .i64 dep] w (DoesP tb b x l j0 k F w)
/-- Where all lies when the program's Loop is called. -/
structure LP (w : World) (tb b x : Nat) (FP FR : List Nat) (kt k4 k5 k6 k7 ke ka : Nat) (sv : Value) (cs : List Value) (j dep : Nat) (p r : BM) (e : Int) : Prop where
  hp : PB w b p FP
  hr : RB w x r FR
  bt : Blk w tb 39 [.pointer (some ⟨b, 0, none⟩), .pointer (some ⟨x, 0, none⟩), .bool true]
  d1 : ∀ k ∈ FP, k ∉ FR
  d2 : tb ∉ FP
  d3 : tb ∉ FR
  bkt : Blk w kt 3 [.int .i64 0]
  b4 : Blk w k4 28 [.pointer (some ⟨tb, 0, none⟩)]
  b5 : Blk w k5 22 [sv]
  b6 : Blk w k6 3 [.int .i64 ((j + 1 : Nat) : Int)]
  b7 : Blk w k7 3 [.int .i64 dep]
  be : Blk w ke 42 [.int .i64 e]
  ba : Blk w ka 27 cs
  oP : ∀ k ∈ [kt, k4, k5, k6, k7, ke, ka], k ∉ FP
  oR : ∀ k ∈ [kt, k4, k5, k6, k7, ke, ka], k ∉ FR
  oT : ∀ k ∈ [kt, k4, k5, k6, k7, ke, ka], k ≠ tb
  nt : ∀ k ∈ [k4, k5, k6, k7, ke, ka], k ≠ kt
  n6 : ∀ k ∈ [kt, k4, k5, k7, ke, ka], k ≠ k6
/-- What the inside of a loop leaves. -/
def CLQ (w : World) (tb b x kt k6 n j k : Nat) (c l : Int) (s : Nm) (FP FR : List Nat) (w4 : World) (bm : BM) (FP4 : List Nat) : Prop :=
  ∃ (j' : Nat) (FR4 : List Nat), j + 1 ≤ j' ∧ j' ≤ n ∧ RB w4 x (closeM bm c l s) FR4 ∧ Blk w4 tb 39 [.pointer (some ⟨b, 0, none⟩), .pointer (some ⟨x, 0, none⟩), .bool true] ∧
    (∀ k ∈ FP4, k ∉ FR4) ∧ tb ∉ FP4 ∧ tb ∉ FR4 ∧ Chg w w4 ([tb, kt, k6] ++ (FP ++ FR)) ∧ (∀ k ∈ FP4, k ∈ FP ++ FR ∨ w.heap.size ≤ k) ∧ (∀ k ∈ FR4, k ∈ FP ++ FR ∨ w.heap.size ≤ k) ∧
    Blk w4 k6 3 [.int .i64 j'] ∧ Blk w4 kt 3 [.int .i64 1] ∧ Siz bm j' (k + 2)
set_option maxRecDepth 100000 in
set_option maxHeartbeats 2000000 in
theorem closure_calls {tb b x : Nat} {A : Option Addr} {c : Nat} {l : List ActL} {m : Nat} (IH : DoesAt tb b x A c l m) (hl : l.length ≤ 60)
    {w : World} {FP FR : List Nat} {kt k4 k5 k6 k7 ke ka j dep k : Nat} {kind ac al an : Int} {i : Ins5} {nm : Nm} {bj q2 : BM}
    (h : LP w tb b x FP FR kt k4 k5 k6 k7 ke ka (.slice A l.length c) (actCells ⟨kind, i, nm, ac, al, an⟩) j dep bj q2 0)
    (hq : openM bj ac al an nm = (0, q2)) (hj : j < l.length) (hm : l.length - j ≤ m + 1) (hdep : dep ≤ 6) (hsz : Siz bj j k) (hsl : ASl w A l) (hAP : ∀ a, A = some a → a.block ∉ FP ∧ a.block ∉ FR ∧ a.block ≠ tb ∧ a.block ≠ kt)
    (hnm : nm.length ≤ 100) :
    DoP 31 #[.pointer (some ⟨kt, 0, none⟩), .pointer (some ⟨k4, 0, none⟩), .pointer (some ⟨k5, 0, none⟩), .pointer (some ⟨k6, 0, none⟩), .pointer (some ⟨k7, 0, none⟩), .pointer (some ⟨ke, 0, none⟩), .pointer (some ⟨ka, 0, none⟩)]
      (CLQ w tb b x kt k6 l.length j k ac al nm FP FR) (openM bj ac al an nm) b FP w := by
  rw [hq]
  intro _ w1 F1 hc1 hs1 hp1
  have hlb : loopB ac al an = true := by
    cases hb : loopB ac al an with
    | true => rfl
    | false => rw [openM_bad hb] at hq; injection hq with h1 _; exact absurd h1 (by decide)
  have hreg := (loopB_iff ac al an).1 hlb
  have hname : isL nm = true := by
    have h1 := @openM_def bj ac al an nm hlb
    rw [hq] at h1
    injection h1 with h1 _
    exact defM_name h1.symm
  have hsq : Siz q2 (j + 1) (k + 2) := by
    have := hsz.opn ac al an nm (by omega) (by rw [hq])
    rw [hq] at this
    exact this
  have H := hide h
  have hn1 : ∀ k ∈ F1, k ∈ FP ∨ w.heap.size ≤ k := hs1
  have g7 : ∀ k ∈ [kt, k4, k5, k6, k7, ke, ka], k < w.heap.size := by
    intro y hy
    simp only [List.mem_cons, List.not_mem_nil, or_false] at hy
    rcases hy with rfl | rfl | rfl | rfl | rfl | rfl | rfl
    · exact h.bkt.lt
    · exact h.b4.lt
    · exact h.b5.lt
    · exact h.b6.lt
    · exact h.b7.lt
    · exact h.be.lt
    · exact h.ba.lt
  have b1t := h.bkt.chg hc1 (h.oP kt (by simp))
  have b14 := h.b4.chg hc1 (h.oP k4 (by simp))
  have b15 := h.b5.chg hc1 (h.oP k5 (by simp))
  have b16 := h.b6.chg hc1 (h.oP k6 (by simp))
  have b17 := h.b7.chg hc1 (h.oP k7 (by simp))
  have b1e := h.be.chg hc1 (h.oP ke (by simp))
  have b1a := h.ba.chg hc1 (h.oP ka (by simp))
  have hF1 : ∀ y ∈ [kt, k4, k5, k6, k7, ke, ka], y ∉ F1 := fun y hy hm => by
    rcases hn1 y hm with h' | h'
    · exact h.oP y hy h'
    · have := g7 y hy; omega
  -- the flag's world: times = 1
  have hct : Chg w1 (w1.setCell ⟨kt, 0, none⟩ (.int .i64 1)) [kt] := (Chg.refl w1 _).setCell _ _ (.inl (by simp))
  have hst : ST (w1.setCell ⟨kt, 0, none⟩ (.int .i64 1)) tb b x q2 q2 ([tb] ++ (F1 ++ FR)) := by
    refine ⟨F1, FR, hp1.chg hct (fun y hy hm => ?_), (h.hr.chg hc1 (fun y hy hm => h.d1 y hm hy)).chg hct (fun y hy hm => ?_), (h.bt.chg hc1 h.d2).chg hct (fun hm => ?_), rfl, fun y hy hm => ?_, fun hm => ?_, h.d3⟩
    · simp at hm; subst hm; exact hF1 y (by simp) hy
    · simp at hm; subst hm; exact h.oR y (by simp) hy
    · simp at hm; exact h.oT kt (by simp) hm.symm
    · rcases hn1 y hy with h' | h'
      · exact h.d1 y h' hm
      · have := h.hr.lt y hm; omega
    · rcases hn1 tb hm with h' | h'
      · exact h.d2 h'
      · have := h.bt.lt; omega
  have hsl1 : ASl (w1.setCell ⟨kt, 0, none⟩ (.int .i64 1)) A l := (hsl.chg hc1 (fun a ha => (hAP a ha).1)).chg hct (fun a ha => by simpa using (hAP a ha).2.2.2)
  have hA1 : ∀ a, A = some a → a.block ∉ [tb] ++ (F1 ++ FR) := fun a ha hm => by
    obtain ⟨q1, q2, q3, q4⟩ := hAP a ha
    simp only [List.mem_append, List.mem_singleton] at hm
    rcases hm with hm | hm | hm
    · exact q3 hm
    · rcases hn1 _ hm with h' | h'
      · exact q1 h'
      · obtain ⟨lb, off, e, hx⟩ := hsl (by omega)
        rw [ha] at e
        injection e with e
        subst e
        have hk : l[j]? = some l[j] := List.getElem?_eq_getElem hj
        have := World.block_lt_of_cell? _ _ (hx j _ hk 0 _ rfl)
        simp at h' this
        omega
    · exact q2 hm
  have hdo := IH (j + 1) (dep + 1) (k + 2) q2 ([tb] ++ (F1 ++ FR)) _ (by omega) (by omega) (by omega) hst hsq hsl1 (fun _ => hA1)
  rw [show (((dep + 1 : Nat)) : Int) = wrap64 ((dep : Int) + 1) by unfold wrap64; omega, show (((j + 1 : Nat)) : Int) = (j : Int) + 1 from rfl] at hdo
  have HDO := hide hdo
  have HC1 := hide hc1
  have HN1 := hide hn1
  have HG7 := hide g7
  have HREG := hide hreg
  have HNAME := hide hname
  have HF1 := hide hF1
  have s0 := b1t.cell' (i := 0) rfl
  have s4 := b14.cell' (i := 0) rfl
  have s5 := b15.cell' (i := 0) rfl
  have s6 := b16.cell' (i := 0) rfl
  have s7 := b17.cell' (i := 0) rfl
  have f0 := b1t.frozen 0
  have m4 := h.nt k4 (by simp)
  have m5 := h.nt k5 (by simp)
  have m6 := h.nt k6 (by simp)
  have m7 := h.nt k7 (by simp)
  have B1 := hide b1t
  have B4 := hide b14
  have B5 := hide b15
  have B6 := hide b16
  have B7 := hide b17
  have BE := hide b1e
  have BA := hide b1a
  have ltt := b1t.lt
  clear h hq hc1 hs1 hp1 hlb hreg hname hsq hn1 g7 b1t b14 b15 b16 b17 b1e b1a hF1 hct hst hsl1 hA1 hdo IH hm hdep hsz hsl hAP
  have hall : ∀ y ∈ [kt, k4, k5, k6, k7, ke, ka], y ∉ [tb] ++ (F1 ++ FR) := fun y hy hm => by
    simp only [List.mem_append, List.mem_singleton] at hm
    rcases hm with hm | hm | hm
    · exact H.out.oT y hy hm
    · exact HF1.out y hy hm
    · exact H.out.oR y hy hm
  have HALL := hide hall
  clear hall
  go_enter Tryz.func31, Tryz.ntmps31
  go_wp2_with fail
  go_at_call 7
  refine HDO.out.mono ?_
  rintro e w2 ⟨j', bm', rfl, hj1, hj2, ⟨hc2, F2, hs2, hst2⟩, hsz2⟩
  obtain ⟨FP2, FR2, hp2, hr2, bt2, rfl, e1, e2, e3⟩ := hst2
  have HJ1 := hide hj1
  have HC2 := hide hc2
  have HS2 := hide hs2
  have HSZ2 := hide hsz2
  have hct : Chg w1 (w1.setCell ⟨kt, 0, none⟩ (.int .i64 1)) [kt] := (Chg.refl w1 _).setCell _ _ (.inl (by simp))
  have hn2 : ∀ y ∈ [kt, k4, k5, k6, k7, ke, ka], y ∉ [tb] ++ (FP2 ++ FR2) := fun y hy hm => by
    rcases hs2 y hm with h' | h'
    · exact HALL.out y hy h'
    · have h1 := HG7.out y hy
      have h2 := HC1.out.size
      have h3 := hct.size
      omega
  have HN2 := hide hn2
  have bb1 := (B1.out.set_ 0 (.int .i64 1)).chg hc2 (HALL.out kt (by simp))
  have bb4 := (B4.out.chg hct (by simpa using H.out.nt k4 (by simp))).chg hc2 (HALL.out k4 (by simp))
  have bb6 := (B6.out.chg hct (by simpa using H.out.nt k6 (by simp))).chg hc2 (HALL.out k6 (by simp))
  have bbe := (BE.out.chg hct (by simpa using H.out.nt ke (by simp))).chg hc2 (HALL.out ke (by simp))
  have bba := (BA.out.chg hct (by simpa using H.out.nt ka (by simp))).chg hc2 (HALL.out ka (by simp))
  have hc3 : Chg w2 (w2.setCell ⟨k6, 0, none⟩ (.int .i64 j')) [k6] := (Chg.refl w2 _).setCell _ _ (.inl (by simp))
  have hr3 : RB (w2.setCell ⟨k6, 0, none⟩ (.int .i64 j')) x bm' FR2 := hr2.chg hc3 (fun y hy hm => by simp at hm; subst hm; exact hn2 y (by simp) (by simp [hy]))
  have hp3 : PB (w2.setCell ⟨k6, 0, none⟩ (.int .i64 j')) b bm' FP2 := hp2.chg hc3 (fun y hy hm => by simp at hm; subst hm; exact hn2 y (by simp) (by simp [hy]))
  have bt3 := bt2.chg hc3 (by simpa using (H.out.oT k6 (by simp)).symm)
  have b31 := bb1.chg hc3 (by simpa using H.out.n6 kt (by simp))
  have b34 := bb4.chg hc3 (by simpa using H.out.n6 k4 (by simp))
  have b36 := bb6.set_ 0 (.int .i64 j')
  have b3e := bbe.chg hc3 (by simpa using H.out.n6 ke (by simp))
  have b3a := bba.chg hc3 (by simpa using H.out.n6 ka (by simp))
  have g6 := bb6.cell' (i := 0) rfl
  have f6 := bb6.frozen 0
  have l6 := bb6.lt
  have o1 := b31.cell' (i := 0) rfl
  have o4 := b34.cell' (i := 0) rfl
  have oe := b3e.cell' (i := 0) rfl
  have ob := bt3.cell' (i := 1) rfl
  have oa2 : (w2.setCell ⟨k6, 0, none⟩ (.int .i64 j')).cell? ⟨ka, 6, none⟩ = some (.string ⟨nm.toArray⟩) := b3a.cell' (i := 6) rfl
  have oa3 : (w2.setCell ⟨k6, 0, none⟩ (.int .i64 j')).cell? ⟨ka, 7, none⟩ = some (.int .i64 ac) := b3a.cell' (i := 7) rfl
  have oa4 : (w2.setCell ⟨k6, 0, none⟩ (.int .i64 j')).cell? ⟨ka, 8, none⟩ = some (.int .i64 al) := b3a.cell' (i := 8) rfl
  have hcl := rclose_calls (hr3.chg (Chg.refl _ []).drew (by simp)) ac al nm (by omega) (by have := hsz2.code; omega) (by have := hsz2.uses; omega) HREG.out.2.2.2.1 HREG.out.2.2.2.2.1 HNAME.out
  unfold strV at hcl
  have HCL := hide hcl
  have HP3 := hide hp3
  have HC3 := hide hc3
  have HT3 := hide bt3
  have HB36 := hide b36
  have HB31 := hide b31
  have HE1 := hide e1
  have HE2 := hide e2
  have HE3 := hide e3
  have HP2L := hide hp2.lt
  have HCT := hide hct
  clear hc2 hs2 hsz2 hp2 hr2 bt2 e1 e2 e3 hct hn2 bb1 bb4 bb6 bbe bba hc3 hr3 hp3 bt3 b31 b34 b36 b3e b3a hcl hj1 s0 s4 s5 s6 s7 f0 m4 m5 m6 m7
  go_upto_region 4 with (fail)
  generalize hw3 : w2.setCell ⟨k6, 0, none⟩ (.int .i64 j') = w3 at *
  clear hw3
  go_still_tail 10, (by kernel_rfl)
  change wpList _ _ _ _ _ w3.drew
  go_wp2_with fail
  go_at_call 32
  refine HCL.out.mono ?_
  rintro e w4 ⟨⟨v, rfl⟩, hc4, FR4, hs4, hr4⟩
  have HC4 := hide (hc4.from_drew)
  have HS4 : Hid (Sub FR4 FR2 w3) := hide hs4
  have HR4 := hide hr4
  clear hc4 hs4 hr4 HCL
  go_wp2
  refine bodyPost_end (results_none rfl _ _ _) rfl ?_
  have hk6n := HN2.out
  have hsub1 : ∀ y ∈ [tb] ++ (FP2 ++ FR2), y ∈ [tb] ++ (F1 ++ FR) ∨ (w1.setCell ⟨kt, 0, none⟩ (.int .i64 1)).heap.size ≤ y := HS2.out
  have hz1 := HC1.out.size
  have hz2 := HCT.out.size
  have hz3 := HC2.out.size
  have hz4 := HC3.out.size
  have hin : ∀ y ∈ F1, y ∈ FP ∨ w.heap.size ≤ y := HN1.out
  have hin2 : ∀ y ∈ [tb] ++ (FP2 ++ FR2), y ∈ [tb, kt, k6] ++ (FP ++ FR) ∨ w.heap.size ≤ y := fun y hy => by
    rcases hsub1 y hy with h' | h'
    · simp only [List.mem_append, List.mem_singleton] at h'
      rcases h' with h' | h' | h'
      · exact .inl (by simp [h'])
      · rcases hin y h' with h'' | h''
        · exact .inl (by simp [h''])
        · exact .inr h''
      · exact .inl (by simp [h'])
    · exact .inr (by omega)
  have hin3 : ∀ y ∈ FP2 ++ FR2, y ∈ FP ++ FR ∨ w.heap.size ≤ y := fun y hy => by
    have hne : y ≠ tb := fun e => by
      subst e
      rcases List.mem_append.1 hy with h' | h'
      · exact HE2.out h'
      · exact HE3.out h'
    rcases hsub1 y (by simp only [List.mem_append] at hy ⊢; exact .inr hy) with h' | h'
    · simp only [List.mem_append, List.mem_singleton] at h'
      rcases h' with h' | h' | h'
      · exact absurd h' hne
      · rcases hin y h' with h'' | h''
        · exact .inl (by simp [h''])
        · exact .inr h''
      · exact .inl (by simp [h'])
    · exact .inr (by omega)
  refine ⟨⟨_, rfl⟩, bm', FP2, HP3.out.chg HC4.out (fun y hy hm => HE1.out y hy hm), by have := HSZ2.out.code; omega, by have := HSZ2.out.uses; omega, j', FR4, HJ1.out, hj2, HR4.out, HT3.out.chg HC4.out HE3.out, fun y hy hm => ?_, HE2.out, fun hm => ?_, ?_, fun y hy => hin3 y (by simp [hy]), fun y hy => ?_, ?_, ?_, HSZ2.out⟩
  · rcases HS4.out y hm with h' | h'
    · exact HE1.out y hy h'
    · have := HP2L.out y hy; omega
  · rcases HS4.out tb hm with h' | h'
    · exact HE3.out h'
    · have := H.out.bt.lt; omega
  · have q1 : Chg w w1 ([tb, kt, k6] ++ (FP ++ FR)) := HC1.out.more (fun y hy => .inl (by simp [hy]))
    have q2 := q1.trans HCT.out (fun y hy => .inl (by simp at hy; simp [hy]))
    have q3 := q2.trans HC2.out (fun y hy => by
      simp only [List.mem_append, List.mem_singleton] at hy
      rcases hy with h' | h' | h'
      · exact .inl (by simp [h'])
      · rcases hin y h' with h'' | h''
        · exact .inl (by simp [h''])
        · exact .inr h''
      · exact .inl (by simp [h']))
    have q4 := q3.trans HC3.out (fun y hy => .inl (by simp at hy; simp [hy]))
    exact q4.trans HC4.out (fun y hy => hin2 y (by simp [hy]))
  · rcases HS4.out y hy with h' | h'
    · exact hin3 y (by simp [h'])
    · exact .inr (by omega)
  · exact HB36.out.chg HC4.out (fun hm => hk6n k6 (by simp) (by simp [hm]))
  · exact HB31.out.chg HC4.out (fun hm => hk6n kt (by simp) (by simp [hm]))
end Go.Proofs.YtjfnpokebaagmaaGreatDoor
