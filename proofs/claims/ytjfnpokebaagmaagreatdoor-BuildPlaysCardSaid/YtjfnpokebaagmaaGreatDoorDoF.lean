/- BuildPlays: a loop, on both builders. -/
import Derived.Test.YtjfnpokebaagmaaGreatDoorDoE
namespace Go.Proofs.YtjfnpokebaagmaaGreatDoor
open Go.RowKit Go.Deep Go.Maps
set_option linter.unusedVariables false
attribute [local go_sem] Oper.semAt_some
theorem openM_ne {bm : BM} {c l n : Int} {s : Nm} (h : (openM bm c l n s).1 ≠ 0) : (openM bm c l n s).2 = bm := by
  cases hb : loopB c l n with
  | false => rw [openM_bad hb]
  | true =>
    have h1 := @openM_def bm c l n s hb
    rw [h1] at h ⊢
    exact if_neg h
theorem ST.parts {w : World} {tb b x : Nat} {p r : BM} {F : List Nat} (h : ST w tb b x p r F) : ∃ FP FR, PB w b p FP ∧ RB w x r FR ∧ F = [tb] ++ (FP ++ FR) ∧ (∀ k ∈ FP, k ∉ FR) ∧ tb ∉ FP ∧ tb ∉ FR := by
  obtain ⟨FP, FR, h1, h2, h3, h4, h5, h6, h7⟩ := h
  exact ⟨FP, FR, h1, h2, h4, h5, h6, h7⟩
/-- In the region of Open: the document's call, and the box of its answer. -/
def WO (w5 : World) (tb b x : Nat) (p q2 : BM) (q1 : Int) (F5 : List Nat) (g : Nat) (L : Nat → Bool) (w : World) : Prop :=
  ∃ F', Chg w5 w F5 ∧ Sub F' F5 w5 ∧ ST w tb b x p (bif L 13 then q2 else p) F' ∧ (L 14 = true → g ∉ F' ∧ w5.heap.size ≤ g ∧ Blk w g 42 [.int .i64 (bif L 15 then q1 else 0)])
section
variable {w5 : World} {tb b x : Nat} {p q2 : BM} {q1 : Int} {F5 : List Nat} {g : Nat} {L L' : Nat → Bool} {w : World}
theorem WO.aft (h : WO w5 tb b x p q2 q1 F5 g L w) : After w5 w tb b x p (bif L 13 then q2 else p) F5 := by
  obtain ⟨F', hc, hs, hst, _⟩ := h
  exact ⟨hc, F', hs, hst⟩
theorem WO.ext (h : WO w5 tb b x p q2 q1 F5 g L w) (h1 : L 13 = L' 13) (h2 : L 14 = L' 14) (h3 : L 15 = L' 15) : WO w5 tb b x p q2 q1 F5 g L' w := by
  unfold WO at h ⊢
  rw [← h1, ← h2, ← h3]
  exact h
theorem WO.keep {i : Nat} (h : WO w5 tb b x p q2 q1 F5 g L w) (h1 : 13 ≠ i) (h2 : 14 ≠ i) (h3 : 15 ≠ i) : WO w5 tb b x p q2 q1 F5 g (fun j => if j = i then true else L j) w :=
  h.ext (by simp only [if_neg h1]) (by simp only [if_neg h2]) (by simp only [if_neg h3])
theorem WO.start (h : ST w5 tb b x p p F5) : WO w5 tb b x p q2 q1 F5 g (fun _ => false) w5.drew := by
  refine ⟨F5, (Chg.refl _ _).drew, Sub.refl _ _, h.chg (Chg.refl w5 []).drew (by simp), fun h => by cases h⟩
theorem WO.ref (h : WO w5 tb b x p q2 q1 F5 g L w) (hL : L 13 = false) :
    ∃ FR, RB w x p FR ∧ ∀ (e : Ending) (w' : World), GoR (q1, q2) x FR w e w' → e = .returned (.int .i64 q1) ∧ WO w5 tb b x p q2 q1 F5 g (fun j => if j = 13 then true else L j) w' := by
  obtain ⟨F', hc, hs, hst, hg⟩ := h
  rw [hL] at hst
  obtain ⟨FR, hr, hgo⟩ := hst.callR
  refine ⟨FR, hr, fun e w' hh => ?_⟩
  obtain ⟨rfl, hc2, F2, hs2, hst2⟩ := hgo (q1, q2) e w' hh
  refine ⟨rfl, F2, hc.trans hc2 (fun k hk => hs k hk), fun k hk => ?_, by simpa using hst2, fun h14 => ?_⟩
  · rcases hs2 k hk with h | h
    · exact hs k h
    · exact .inr (Nat.le_trans hc.size h)
  · obtain ⟨g1, g2, g3⟩ := hg (by simpa using h14)
    refine ⟨fun hm => ?_, g2, by simpa using g3.chg hc2 g1⟩
    rcases hs2 g hm with h | h
    · exact g1 h
    · have := g3.lt; omega
theorem WO.new (h : WO w5 tb b x p q2 q1 F5 g L w) (h15 : L 15 = false) : WO w5 tb b x p q2 q1 F5 w.heap.size (fun j => if j = 14 then true else L j) (w.alloc (.cells #[.int .i64 0] 42)) := by
  obtain ⟨F', hc, hs, hst, hg⟩ := h
  refine ⟨F', hc.alloc _, hs, by simpa using hst.chg ((Chg.refl w []).alloc _) (by simp), fun _ => ⟨fun hm => by have := hst.lt _ hm; omega, hc.size, ?_⟩⟩
  have hb := Blk.new w 42 [.int .i64 0]
  simpa [h15] using hb
theorem WO.put (h : WO w5 tb b x p q2 q1 F5 g L w) (h14 : L 14 = true) : WO w5 tb b x p q2 q1 F5 g (fun j => if j = 15 then true else L j) (w.setCell ⟨g, 0, none⟩ (.int .i64 q1)) := by
  obtain ⟨F', hc, hs, hst, hg⟩ := h
  obtain ⟨g1, g2, g3⟩ := hg h14
  have hc2 : Chg w (w.setCell ⟨g, 0, none⟩ (.int .i64 q1)) [g] := (Chg.refl w _).setCell _ _ (.inl (by simp))
  refine ⟨F', hc.trans hc2 (fun k hk => .inr (by simp at hk; omega)), hs, by simpa using hst.chg hc2 (fun k hk hm => by simp at hm; subst hm; exact g1 hk), fun _ => ⟨g1, g2, ?_⟩⟩
  simpa using g3.set_ 0 (.int .i64 q1)
theorem WO.cellg (h : WO w5 tb b x p q2 q1 F5 g L w) (h14 : L 14 = true) : w.cell? ⟨g, 0, none⟩ = some (.int .i64 (bif L 15 then q1 else 0)) ∧ w.frozen? ⟨g, 0, none⟩ = false := by
  obtain ⟨F', hc, hs, hst, hg⟩ := h
  obtain ⟨g1, g2, g3⟩ := hg h14
  exact ⟨g3.cell' (i := 0) rfl, g3.frozen 0⟩
end
/-- What the program's Loop leaves. -/
def OUT (w : World) (tb b x : Nat) (sv : Value) (j0 k n dep : Nat) (F : List Nat) (j kt ke : Nat) (q1 : Int) (w10 : World) : Prop :=
  ∃ (j2 : Nat) (cm : BM), LI w tb b x sv j0 k n dep F w10 j2 cm ∧ j + 1 ≤ j2 ∧ Blk w10 ke 42 [.int .i64 q1] ∧ Blk w10 kt 3 [.int .i64 (if q1 = 0 then 1 else 0)]
theorem LI.fine {w : World} {tb b x : Nat} {sv : Value} {j0 k n dep : Nat} {F : List Nat} {wr : World} {j : Nat} {bj : BM} (h : LI w tb b x sv j0 k n dep F wr j bj) (hF : tb ∈ F) (hlt : tb < w.heap.size) : LI w tb b x sv j0 k n dep F (wr.setCell ⟨tb, 2, none⟩ (.bool true)) j bj := by
  have hc : Chg wr (wr.setCell ⟨tb, 2, none⟩ (.bool true)) [tb] := (Chg.refl wr _).setCell _ _ (.inl (by simp))
  obtain ⟨F', hs, hst⟩ := h.st
  obtain ⟨hc2, F2, hs2, hst2⟩ := hst.fine
  refine ⟨h.h1, h.h2, h.chg.trans hc (fun k hk => .inl (by simp at hk; subst hk; exact hF)), ⟨F2, fun k hk => ?_, hst2⟩, h.siz, h.b4.chg hc (by simp; omega), h.b5.chg hc (by simp; omega), h.b6.chg hc (by simp; omega), h.b7.chg hc (by simp; omega)⟩
  rcases hs2 k hk with h' | h'
  · exact hs k h'
  · have := h.b7.lt; exact .inr (by omega)
theorem LI.drew {w : World} {tb b x : Nat} {sv : Value} {j0 k n dep : Nat} {F : List Nat} {wr : World} {j : Nat} {bj : BM} (h : LI w tb b x sv j0 k n dep F wr j bj) : LI w tb b x sv j0 k n dep F wr.drew j bj := by
  obtain ⟨F', hs, hst⟩ := h.st
  exact ⟨h.h1, h.h2, h.chg.drew, ⟨F', hs, hst.chg (Chg.refl wr []).drew (by simp)⟩, h.siz, h.b4, h.b5, h.b6, h.b7⟩
theorem run_closure (caps : Array Value) (W : World) : (callFunc 31 caps).run Tryz.prog W = .ok (.enter 31 caps) W := by kernel_rfl
set_option maxHeartbeats 1000000 in
theorem loop_arm {tb b x : Nat} {A : Option Addr} {c : Nat} {l : List ActL} {m : Nat} (IH : DoesAt tb b x A c l m) (hl : l.length ≤ 60)
    {w : World} {j0 k dep : Nat} {F : List Nat} {w5 : World} {ka : Nat} {kind ac al an : Int} {i : Ins5} {nm : Nm} {j : Nat} {bj q2 : BM} {q1 : Int} {F5 : List Nat} {w8 : World} {ke : Nat}
    (hM : MID w tb b x (.slice A l.length c) j0 k l.length dep F w5 ka (actCells ⟨kind, i, nm, ac, al, an⟩) j bj F5)
    (hW : WO w5 tb b x bj q2 q1 F5 ke (fun _ => true) w8) (hq : openM bj ac al an nm = (q1, q2))
    (hm : l.length - j ≤ m + 1) (hdep : dep ≤ 6) (hsl : ASl w A l) (hAF : ∀ a, A = some a → a.block ∉ F) (hF : ∀ y ∈ F, y < w.heap.size) (hnm : nm.length ≤ 100) :
    Calls Tryz.prog 13 #[.pointer (some ⟨b, 0, none⟩), .int .i64 ac, .int .i64 al, .int .i64 an, strV nm, .func (.func 31) #[] #[.pointer (some ⟨w8.heap.size, 0, none⟩), .pointer (some ⟨w.heap.size, 0, none⟩), .pointer (some ⟨w.heap.size + 1, 0, none⟩), .pointer (some ⟨w.heap.size + 1 + 1, 0, none⟩), .pointer (some ⟨w.heap.size + 1 + 1 + 1, 0, none⟩), .pointer (some ⟨ke, 0, none⟩), .pointer (some ⟨ka, 0, none⟩)]] (w8.alloc (.cells #[.int .i64 0] 3)).drew
      fun e w10 => e = .returned (.int .i64 q1) ∧ OUT w tb b x (.slice A l.length c) j0 k l.length dep F j w8.heap.size ke q1 w10 := by
  obtain ⟨F8, hc8, hs8, hst8, hg8⟩ := hW
  obtain ⟨g1, g2, g3⟩ := hg8 rfl
  have g3 : Blk w8 ke 42 [.int .i64 q1] := g3
  have hst8 : ST w8 tb b x bj q2 F8 := hst8
  have hc9 : Chg w8 (w8.alloc (.cells #[.int .i64 0] 3)).drew [] := ((Chg.refl w8 []).alloc _).drew
  have hkt : Blk (w8.alloc (.cells #[.int .i64 0] 3)).drew w8.heap.size 3 [.int .i64 0] := (Blk.new w8 3 [.int .i64 0]).drew
  have hz := hM.hsz
  have hz8 := hc8.size
  have n8 : ∀ y ∈ F8, (y < w.heap.size ∨ w.heap.size + 4 ≤ y) ∧ y < w8.heap.size ∧ y ≠ ka ∧ y ≠ ke := fun y hy => by
    have h1 := hst8.lt y hy
    refine ⟨?_, h1, ?_, fun e => g1 (e ▸ hy)⟩
    · rcases hs8 y hy with h | h
      · exact (hM.hn y h).1
      · exact .inr (by omega)
    · rcases hs8 y hy with h | h
      · have := (hM.hn y h).2; omega
      · omega
  have n5 : ∀ y ∈ F5, (y < w.heap.size ∨ w.heap.size + 4 ≤ y) ∧ y < ka := hM.hn
  have b84 := (hM.b4.chg hc8 (fun hm => by have := n5 _ hm; omega)).chg hc9 (by simp)
  have b85 := (hM.b5.chg hc8 (fun hm => by have := n5 _ hm; omega)).chg hc9 (by simp)
  have b86 := (hM.b6.chg hc8 (fun hm => by have := n5 _ hm; omega)).chg hc9 (by simp)
  have b87 := (hM.b7.chg hc8 (fun hm => by have := n5 _ hm; omega)).chg hc9 (by simp)
  have b8a := (hM.ba.chg hc8 (fun hm => by have := n5 _ hm; omega)).chg hc9 (by simp)
  have b8e := g3.chg hc9 (by simp)
  have hst9 := hst8.chg hc9 (by simp)
  have hchg : Chg w (w8.alloc (.cells #[.int .i64 0] 3)).drew F := (hM.chg.trans hc8 (fun y hy => (hM.hF y hy).imp id (fun h => by omega))).trans hc9 (by simp)
  have hin8 : ∀ y ∈ F8, y ∈ F ∨ w.heap.size + 4 ≤ y := fun y hy => by
    rcases hs8 y hy with h | h
    · exact hM.hF y h
    · exact .inr (by omega)
  have hsz9 : (w8.alloc (.cells #[.int .i64 0] 3)).drew.heap.size = w8.heap.size + 1 := by simp
  have hsl9 : ASl (w8.alloc (.cells #[.int .i64 0] 3)).drew A l := hsl.chg hchg hAF
  have hAlt : ∀ a, A = some a → a.block < w.heap.size := fun a ha => by
    obtain ⟨lb, off, e, hx⟩ := hsl (by have := hM.h2; omega)
    rw [ha] at e
    injection e with e
    subst e
    have hjl : j < l.length := hM.h2
    have hk : l[j]? = some l[j] := List.getElem?_eq_getElem hjl
    have h0 := World.block_lt_of_cell? _ _ (hx j _ hk 0 _ rfl)
    exact h0
  generalize (w8.alloc (.cells #[.int .i64 0] 3)).drew = w9 at *
  have hkelt := g3.lt
  have htb : tb < w.heap.size ∨ w.heap.size + 4 ≤ tb := (n8 tb hst8.tbF).1
  have htk : tb ≠ ka := (n8 tb hst8.tbF).2.2.1
  have hte : tb ≠ ke := (n8 tb hst8.tbF).2.2.2
  have htt : tb < w8.heap.size := (n8 tb hst8.tbF).2.1
  have bt9 := hst9.blk
  obtain ⟨FP, FR, hp9, hr9, rfl, d1, d2, d3⟩ := hst9.parts
  have hLP : LP w9 tb b x FP FR w8.heap.size w.heap.size (w.heap.size + 1) (w.heap.size + 1 + 1) (w.heap.size + 1 + 1 + 1) ke ka (.slice A l.length c) (actCells ⟨kind, i, nm, ac, al, an⟩) j dep bj q2 q1 := by
    have hout : ∀ y ∈ [w8.heap.size, w.heap.size, w.heap.size + 1, w.heap.size + 1 + 1, w.heap.size + 1 + 1 + 1, ke, ka], y ∉ [tb] ++ (FP ++ FR) := fun y hy hm => by
      obtain ⟨q1, q2, q3, q4⟩ := n8 y hm
      simp only [List.mem_cons, List.not_mem_nil, or_false] at hy
      omega
    refine ⟨hp9, hr9, bt9, d1, d2, d3, hkt, b84, b85, b86, b87, b8e, b8a, fun y hy hm => hout y hy (by simp [hm]), fun y hy hm => hout y hy (by simp [hm]), fun y hy hm => hout y hy (by simp [hm]), fun y hy => ?_, fun y hy => ?_⟩
    · simp only [List.mem_cons, List.not_mem_nil, or_false] at hy
      omega
    · simp only [List.mem_cons, List.not_mem_nil, or_false] at hy
      omega
  have hAP : ∀ a, A = some a → a.block ∉ FP ∧ a.block ∉ FR ∧ a.block ≠ tb ∧ a.block ≠ w8.heap.size := fun a ha => by
    have h1 := hAlt a ha
    have hno : a.block ∉ [tb] ++ (FP ++ FR) := fun hm => by
      rcases hin8 _ hm with h | h
      · exact hAF a ha h
      · omega
    refine ⟨fun hm => hno (by simp [hm]), fun hm => hno (by simp [hm]), fun hm => hno (by simp [hm]), by omega⟩
  have s1 := hM.siz.code
  have s3 := hM.siz.defs
  have hj2 := hM.h2
  by_cases h0 : q1 = 0
  · subst h0
    have hdo := closure_calls IH hl hLP hq hM.h2 hm hdep hM.siz hsl9 hAP hnm
    refine (loop_calls hLP.hp ac al an nm _ _ _ (by omega) (by omega) (by omega) (fun W => run_closure _ W) hdo).mono ?_
    rintro e w10 ⟨h1, _⟩
    obtain ⟨w4, bm2, FP4, ⟨j', FR4, e1, e2, hr4, bt4, e3, e4, e5, hc4, e6, e7, b46, b4t, hs4⟩, rfl, hc10, FP10, hs10, hp10⟩ := h1 (by rw [hq])
    refine ⟨rfl, j', closeM bm2 ac al nm, ?_, e1, ?_, ?_⟩
    · have hz9 := hc4.size
      have hz10 := hc10.size
      have i4 : ∀ y ∈ FP4, y ∈ [tb] ++ (FP ++ FR) ∨ w9.heap.size ≤ y := fun y hy => (e6 y hy).imp (fun h => by simp at h ⊢; exact .inr h) id
      have i5 : ∀ y ∈ FR4, y ∈ [tb] ++ (FP ++ FR) ∨ w9.heap.size ≤ y := fun y hy => (e7 y hy).imp (fun h => by simp at h ⊢; exact .inr h) id
      have far : ∀ y, w.heap.size ≤ y → y < w.heap.size + 4 → y ∉ FP4 := fun y h1 h2 hm => by
        rcases i4 y hm with h | h
        · have := (n8 y h).1; omega
        · omega
      have far4 : ∀ y, w.heap.size ≤ y → y < w.heap.size + 4 → y ≠ w.heap.size + 1 + 1 → y ∉ [tb, w8.heap.size, w.heap.size + 1 + 1] ++ (FP ++ FR) := fun y h1 h2 h3 hm => by
        have : y ∈ [tb] ++ (FP ++ FR) := by
          simp only [List.mem_append, List.mem_cons, List.not_mem_nil, or_false] at hm ⊢
          rcases hm with (hm | hm | hm) | hm
          · exact .inl hm
          · omega
          · exact absurd hm h3
          · exact .inr hm
        have := (n8 y this).1
        omega
      refine ⟨by have := hM.h1; omega, e2, ?_, ⟨[tb] ++ (FP10 ++ FR4), fun y hy => ?_, FP10, FR4, hp10, hr4.chg hc10 (fun y hy hm => e3 y hm hy), bt4.chg hc10 e4, rfl, fun y hy hm => ?_, fun hm => ?_, e5⟩, hs4.cls ac al nm (by omega) (by omega), ?_, ?_, ?_, ?_⟩
      · refine (hchg.trans hc4 (fun y hy => ?_)).trans hc10 (fun y hy => ?_)
        · simp only [List.mem_append, List.mem_cons, List.not_mem_nil, or_false] at hy
          rcases hy with (hy | hy | hy) | hy
          · exact (hin8 y (by simp [hy])).imp id (fun h => by omega)
          · exact .inr (by omega)
          · exact .inr (by omega)
          · exact (hin8 y (by simp; exact .inr hy)).imp id (fun h => by omega)
        · rcases i4 y hy with h | h
          · exact (hin8 y h).imp id (fun h => by omega)
          · exact .inr (by omega)
      · simp only [List.mem_append, List.mem_singleton] at hy
        rcases hy with hy | hy | hy
        · exact hin8 y (by simp [hy])
        · rcases hs10 y hy with h | h
          · rcases i4 y h with h | h
            · exact hin8 y h
            · exact .inr (by omega)
          · exact .inr (by omega)
        · rcases i5 y hy with h | h
          · exact hin8 y h
          · exact .inr (by omega)
      · rcases hs10 y hy with h | h
        · exact e3 y h hm
        · have := hr4.lt y hm; omega
      · rcases hs10 tb hm with h | h
        · exact e4 h
        · have := bt4.lt; omega
      · exact (b84.chg hc4 (far4 _ (by omega) (by omega) (by omega))).chg hc10 (far _ (by omega) (by omega))
      · exact (b85.chg hc4 (far4 _ (by omega) (by omega) (by omega))).chg hc10 (far _ (by omega) (by omega))
      · exact b46.chg hc10 (far _ (by omega) (by omega))
      · exact (b87.chg hc4 (far4 _ (by omega) (by omega) (by omega))).chg hc10 (far _ (by omega) (by omega))
    · have hne : ke ∉ [tb, w8.heap.size, w.heap.size + 1 + 1] ++ (FP ++ FR) := fun hm => by
        have : ke ∈ [tb] ++ (FP ++ FR) ∨ ke = w8.heap.size ∨ ke = w.heap.size + 1 + 1 := by
          simp only [List.mem_append, List.mem_cons, List.not_mem_nil, or_false] at hm ⊢
          rcases hm with (hm | hm | hm) | hm
          · exact .inl (.inl hm)
          · exact .inr (.inl hm)
          · exact .inr (.inr hm)
          · exact .inl (.inr hm)
        rcases this with h | h | h
        · exact g1 h
        · omega
        · omega
      refine (b8e.chg hc4 hne).chg hc10 (fun hm => ?_)
      rcases e6 ke hm with h | h
      · exact g1 (by simp at h ⊢; exact .inr h)
      · omega
    · simp only [if_true]
      refine b4t.chg hc10 (fun hm => ?_)
      rcases e6 w8.heap.size hm with h | h
      · have := (n8 w8.heap.size (by simp at h ⊢; exact .inr h)).2.1; omega
      · omega
  · have hne : (openM bj ac al an nm).1 ≠ 0 := by rw [hq]; exact h0
    have hq2 : q2 = bj := by
      have := openM_ne hne
      rw [hq] at this
      exact this
    subst hq2
    refine (loop_calls hLP.hp ac al an nm _ _ (fun _ _ _ => True) (by omega) (by omega) (by omega) (fun W => run_closure _ W) (fun h => absurd h hne)).mono ?_
    rintro e w10 ⟨_, h1⟩
    have h2 := h1 hne
    obtain ⟨FP', hPB, hgo⟩ : ∃ FP', PB w9 b q2 FP' ∧ FP' = FP := ⟨FP, hp9, rfl⟩
    obtain ⟨rfl, hc10, FP10, hs10, hp10⟩ := h2
    refine ⟨by rw [hq], j + 1, q2, ?_, Nat.le_refl _, ?_, ?_⟩
    · have hz10 := hc10.size
      have far : ∀ y, w.heap.size ≤ y → y < w.heap.size + 4 → y ∉ FP := fun y h1 h2 hm => by
        have := (n8 y (by simp [hm])).1; omega
      refine ⟨by have := hM.h1; omega, hM.h2, ?_, ⟨[tb] ++ (FP10 ++ FR), fun y hy => ?_, FP10, FR, hp10, hr9.chg hc10 (fun y hy hm => d1 y hm hy), bt9.chg hc10 d2, rfl, fun y hy hm => ?_, fun hm => ?_, d3⟩, hM.siz.next, ?_, ?_, ?_, ?_⟩
      · exact hchg.trans hc10 (fun y hy => (hin8 y (by simp [hy])).imp id (fun h => by omega))
      · simp only [List.mem_append, List.mem_singleton] at hy
        rcases hy with hy | hy | hy
        · exact hin8 y (by simp [hy])
        · rcases hs10 y hy with h | h
          · exact hin8 y (by simp [h])
          · exact .inr (by omega)
        · exact hin8 y (by simp [hy])
      · rcases hs10 y hy with h | h
        · exact d1 y h hm
        · have := hr9.lt y hm; omega
      · rcases hs10 tb hm with h | h
        · exact d2 h
        · have := bt9.lt; omega
      · exact b84.chg hc10 (far _ (by omega) (by omega))
      · exact b85.chg hc10 (far _ (by omega) (by omega))
      · exact b86.chg hc10 (far _ (by omega) (by omega))
      · exact b87.chg hc10 (far _ (by omega) (by omega))
    · exact b8e.chg hc10 (fun hm => g1 (by simp [hm]))
    · rw [if_neg h0]
      exact hkt.chg hc10 (fun hm => by have := (n8 w8.heap.size (by simp [hm])).2.1; omega)
end Go.Proofs.YtjfnpokebaagmaaGreatDoor
