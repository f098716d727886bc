/- Texts of this claim, side by side: ModelK, ModelL, ModelM, ModelN, ModelP. -/
import Derived.Test.YtihgijhjhmjolaaGreatDoorMT17
import Derived.Test.YtihgijhjhmjolaaGreatDoorMT16
/- What is refused: Tell, Feed. -/
namespace Go.Proofs.YtihgijhjhmjolaaGreatDoor.Xi
open Go Go.RowKit Go.Deep
set_option linter.unusedVariables false
def tlit0 : List (FuncId × AV) := [(27, .lit (.bool false))]
def rlit0 : List (FuncId × AV) := [(30, .lit (.bool false))]
def noE : List (EntK FTab) := []
def nilS : CA := .v (.slice none 0 0)
set_option maxRecDepth 100000 in
theorem ptell_run14 (a b c d : Wd) (s f g fl : Int) : runS (cxV tlit0 [] [] []) (tabK noE) 2000 12 [] [.agg (opqs 7 0), .opq 7] (tellA a b c d s f g fl) = some (true, [nilS, .v (.int .i64 14)], [rightO a b c d s f g false]) := by kernel_rfl
set_option maxRecDepth 100000 in
theorem ptell_run6 (a b c d : Wd) (s f g fl : Int) : runS (cxV tlit [] [(9, true)] []) (tabK noE) 2000 12 [] [.agg (opqs 7 0), .opq 7] (tellA a b c d s f g fl) = some (true, [nilS, .v (.int .i64 6)], [flagO fl true, rightO a b c d s f g true]) := by kernel_rfl
set_option maxRecDepth 100000 in
theorem rtell_run14 (a b c d : Wd) (s f g fl : Int) : runS (cxV rlit0 [] [] []) (tabK noE) 2000 13 [] [.agg (opqs 7 0), .opq 7] (tellA a b c d s f g fl) = some (true, [nilS, .v (.int .i64 14)], [rRightO a b c d s f g false]) := by kernel_rfl
set_option maxRecDepth 100000 in
theorem rtell_run6a (a b c d : Wd) (s f g fl : Int) : runS (cxV rlit [] [(8, true)] []) (tabK noE) 2000 13 [] [.agg (opqs 7 0), .opq 7] (tellA a b c d s f g fl) = some (true, [nilS, .v (.int .i64 6)], [oLss 3 .i64 fl 0 true, rRightO a b c d s f g true]) := by kernel_rfl
set_option maxRecDepth 100000 in
theorem rtell_run6b (a b c d : Wd) (s f g fl : Int) : runS (cxV rlit [] [(8, false), (9, true)] []) (tabK noE) 2000 13 [] [.agg (opqs 7 0), .opq 7] (tellA a b c d s f g fl) = some (true, [nilS, .v (.int .i64 6)], [oGtr 3 .i64 fl 7 true, oLss 3 .i64 fl 0 false, rRightO a b c d s f g true]) := by kernel_rfl
set_option maxRecDepth 100000 in
theorem pfeed_run14 (a b c d : Wd) (s f g : Int) (A : Option Addr) (n m : Nat) : runS (cxV tlit0 [] [] []) (tabK noE) 2000 10 [] [.agg (opqs 7 0), .lit (.slice A n m)] (inS a b c d s f g) = some (true, [.v (stV a b c d s f g), nilS, .v (.int .i64 14)], [rightO a b c d s f g false]) := by kernel_rfl
set_option maxRecDepth 100000 in
theorem rfeed_run14 (a b c d : Wd) (s f g : Int) (A : Option Addr) (n m : Nat) : runS (cxV rlit0 [] [] []) (tabK noE) 2000 11 [] [.agg (opqs 7 0), .lit (.slice A n m)] (inS a b c d s f g) = some (true, [.v (stV a b c d s f g), nilS, .v (.int .i64 14)], [rRightO a b c d s f g false]) := by kernel_rfl
/-- The counters are ints. -/
def St.i64 (x : St) : Prop := (-9223372036854775808 ≤ x.s ∧ x.s ≤ 9223372036854775807) ∧ (-9223372036854775808 ≤ x.f ∧ x.f ≤ 9223372036854775807) ∧ (-9223372036854775808 ≤ x.g ∧ x.g ≤ 9223372036854775807)
theorem St.good {x : St} (h : x.i64) : goodL (inS x.q.a x.q.b x.q.c x.q.d x.s x.f x.g) := good_in7 (good_64 h.1) (good_64 h.2.1) (good_64 h.2.2)
def St.rb (x : St) : Bool := rightB x.s x.f x.g
theorem St.rb_iff (x : St) : x.rb = true ↔ x.right := rightB_iff _ _ _
theorem nil_sl (w : World) : Sl w (.slice none 0 0) (u8s []) := ⟨none, 0, rfl, Nat.le_refl _, fun h => absurd h (by simp [u8s])⟩
/-- What Tell answers. -/
def tellR (x : St) (fl : Int) : List Nat × Int := bif x.rb then (bif decide (0 ≤ fl ∧ fl ≤ 7) then (x.frame fl, 0) else ([], 6)) else ([], 14)
def tellP (w : World) (x : St) (fl : Int) (e : Ending) (w' : World) : Prop := (∃ sv, e = .returned (.tuple #[sv, .int .i64 (tellR x fl).2]) ∧ Sl w' sv (u8s (tellR x fl).1)) ∧ Chg w w' []
theorem two_nil {w w' : World} {us : List Value} {n : Int} {l : List Nat × Int} (hl : l = ([], n)) (ha : ArgsOk [] w' us [nilS, .v (.int .i64 n)]) : ∃ sv, Ending.returned (outV true us) = .returned (.tuple #[sv, .int .i64 l.2]) ∧ Sl w' sv (u8s l.1) := by
  subst hl
  match us, ha with
  | [y, z], ha =>
    obtain ⟨rfl, rfl, _⟩ := ha
    exact ⟨_, rfl, nil_sl _⟩
theorem bits7_out : ∀ (fl : Int), ¬ (0 ≤ fl ∧ fl ≤ 7) → -9223372036854775808 ≤ fl → fl ≤ 9223372036854775807 → (bits .andNot .i64 fl 7 != 0) = true := fun fl h h1 h2 => by
  have e : (((BitVec.ofInt 64 fl) &&& ~~~(BitVec.ofInt 64 7)).toNat : Nat) ≠ 0 := fun h0 => by
    have hz : (BitVec.ofInt 64 fl) &&& ~~~(BitVec.ofInt 64 7) = 0 := BitVec.eq_of_toNat_eq h0
    have hb : BitVec.ofInt 64 fl = (BitVec.ofInt 64 fl) &&& (BitVec.ofInt 64 7) := by
      apply BitVec.eq_of_getLsbD_eq
      intro i hi
      have := congrArg (fun v => v.getLsbD i) hz
      simp only [BitVec.getLsbD_and, BitVec.getLsbD_not] at this ⊢
      cases hx : (BitVec.ofInt 64 fl).getLsbD i <;> cases hy : (BitVec.ofInt 64 7).getLsbD i <;> simp_all
    have h7 : (BitVec.ofInt 64 fl).toNat = (BitVec.ofInt 64 fl).toNat &&& 7 := by
      have := congrArg BitVec.toNat hb
      rwa [BitVec.toNat_and, show (BitVec.ofInt 64 7).toNat = 7 by rfl] at this
    have hle : (BitVec.ofInt 64 fl).toNat ≤ 7 := by rw [h7]; exact Nat.and_le_right
    rw [BitVec.toNat_ofInt] at hle
    omega
  have hlt := ((BitVec.ofInt 64 fl) &&& ~~~(BitVec.ofInt 64 7)).isLt
  have : bits .andNot .i64 fl 7 ≠ 0 := by
    show IntKind.i64.wrap (((BitVec.ofInt 64 fl) &&& ~~~(BitVec.ofInt 64 7)).toNat : Int) ≠ 0
    generalize ((BitVec.ofInt 64 fl) &&& ~~~(BitVec.ofInt 64 7)).toNat = n at *
    rw [IntKind.wrap_i64]
    omega
  simpa using this
theorem ptell (x : St) (hx : x.i64) (fl : Int) (hfl : -9223372036854775808 ≤ fl ∧ fl ≤ 9223372036854775807) (w : World) (hw : FTab w) : Calls Tryz.prog 12 #[x.val, .int .i64 fl] w fun e w' => tellP w x fl e w' := by
  have hgi : goodL (tellA x.q.a x.q.b x.q.c x.q.d x.s x.f x.g fl) := fun v hv => (List.mem_append.1 hv).elim (x.good hx v) (fun h => by simp at h; subst h; exact good_64 hfl)
  have hr : ObOk Tryz.prog (rightO x.q.a x.q.b x.q.c x.q.d x.s x.f x.g x.rb) := fun w => pright_calls _ _ _ _ _ _ _ (x.good hx) w
  cases hb : x.rb with
  | false =>
    rw [hb] at hr
    refine (seenF_calls noE (ptell_run14 x.q.a x.q.b x.q.c x.q.d x.s x.f x.g fl) hgi (obsKC (obK hr) obsK0) w hw [] (fun i cs hi => by cases hi) (fun v hv => by cases hv) (vals := [x.val, .int .i64 fl]) rfl).mono ?_
    rintro e w' ⟨⟨us, ha, rfl⟩, hc⟩
    exact ⟨two_nil (w := w) (by unfold tellR; rw [hb]; rfl) ha, hc⟩
  | true =>
    rw [hb] at hr
    obtain ⟨h1, h2, h3⟩ := x.rb_iff.1 hb
    by_cases h7 : 0 ≤ fl ∧ fl ≤ 7
    · have e : tellR x fl = (x.frame fl, 0) := by unfold tellR; rw [hb, decide_eq_true h7]; rfl
      unfold tellP
      rw [e]
      exact tell_ok _ _ _ _ h1 h2 h3 h7 hr w hw
    · refine (seenF_calls noE (ptell_run6 x.q.a x.q.b x.q.c x.q.d x.s x.f x.g fl) hgi (obsKC (obK (oNeq_ok (bits7_out fl h7 hfl.1 hfl.2))) (obsKC (obK hr) obsK0)) w hw [] (fun i cs hi => by cases hi) (fun v hv => by cases hv) (vals := [x.val, .int .i64 fl]) rfl).mono ?_
      rintro e w' ⟨⟨us, ha, rfl⟩, hc⟩
      exact ⟨two_nil (w := w) (by unfold tellR; rw [hb, decide_eq_false h7]; rfl) ha, hc⟩
theorem rtell (x : St) (hx : x.i64) (fl : Int) (hfl : -9223372036854775808 ≤ fl ∧ fl ≤ 9223372036854775807) (w : World) (hw : FTab w) : Calls Tryz.prog 13 #[x.val, .int .i64 fl] w fun e w' => tellP w x fl e w' := by
  have hgi : goodL (tellA x.q.a x.q.b x.q.c x.q.d x.s x.f x.g fl) := fun v hv => (List.mem_append.1 hv).elim (x.good hx v) (fun h => by simp at h; subst h; exact good_64 hfl)
  have hr : ObOk Tryz.prog (rRightO x.q.a x.q.b x.q.c x.q.d x.s x.f x.g x.rb) := fun w => rright_calls _ _ _ _ _ _ _ (x.good hx) w
  cases hb : x.rb with
  | false =>
    rw [hb] at hr
    refine (seenF_calls noE (rtell_run14 x.q.a x.q.b x.q.c x.q.d x.s x.f x.g fl) hgi (obsKC (obK hr) obsK0) w hw [] (fun i cs hi => by cases hi) (fun v hv => by cases hv) (vals := [x.val, .int .i64 fl]) rfl).mono ?_
    rintro e w' ⟨⟨us, ha, rfl⟩, hc⟩
    exact ⟨two_nil (w := w) (by unfold tellR; rw [hb]; rfl) ha, hc⟩
  | true =>
    rw [hb] at hr
    obtain ⟨h1, h2, h3⟩ := x.rb_iff.1 hb
    by_cases h7 : 0 ≤ fl ∧ fl ≤ 7
    · have e : tellR x fl = (x.frame fl, 0) := by unfold tellR; rw [hb, decide_eq_true h7]; rfl
      unfold tellP
      rw [e]
      exact rtell_ok _ _ _ _ h1 h2 h3 h7 w hw
    · have e : tellR x fl = ([], 6) := by unfold tellR; rw [hb, decide_eq_false h7]; rfl
      by_cases h0 : fl < 0
      · refine (seenF_calls noE (rtell_run6a x.q.a x.q.b x.q.c x.q.d x.s x.f x.g fl) hgi (obsKC (obK (oLss_ok (by simpa using h0))) (obsKC (obK hr) obsK0)) w hw [] (fun i cs hi => by cases hi) (fun v hv => by cases hv) (vals := [x.val, .int .i64 fl]) rfl).mono ?_
        rintro e' w' ⟨⟨us, ha, rfl⟩, hc⟩
        exact ⟨two_nil (w := w) e ha, hc⟩
      · refine (seenF_calls noE (rtell_run6b x.q.a x.q.b x.q.c x.q.d x.s x.f x.g fl) hgi (obsKC (obK (oGtr_ok (by simp; omega))) (obsKC (obK (oLss_ok (by simp; omega))) (obsKC (obK hr) obsK0))) w hw [] (fun i cs hi => by cases hi) (fun v hv => by cases hv) (vals := [x.val, .int .i64 fl]) rfl).mono ?_
        rintro e' w' ⟨⟨us, ha, rfl⟩, hc⟩
        exact ⟨two_nil (w := w) e ha, hc⟩
end Go.Proofs.YtihgijhjhmjolaaGreatDoor.Xi

/- Feed of bytes of another length. -/
namespace Go.Proofs.YtihgijhjhmjolaaGreatDoor
open Go.RowKit Go.Deep Xi
set_option linter.unusedVariables false
def errLen (n : Nat) : Int := if n < 20 then 4 else 5
def zero9 : Value := .agg #[.int .i32 0, .int .i32 0, .int .i32 0, .int .i32 0, .int .i32 0, .int .i32 0, .int .i32 0, .int .i32 0, .int .i32 0]
set_option maxRecDepth 100000 in
set_option maxHeartbeats 2000000 in
theorem read_len (A : Option Addr) (n m : Nat) (hn : n ≠ 20) (hm : n ≤ maxLen) (w : World) : Calls Tryz.prog 28 #[.slice A n m] w fun e w' => e = .returned (.tuple #[zero9, .bool false, .int .i64 (errLen n)]) ∧ Chg w w' [] := by
  have b1 := Blk.new (w.alloc (.cells #[.slice A n m] 26)) 65 [.int .i32 0, .int .i32 0, .int .i32 0, .int .i32 0, .int .i32 0, .int .i32 0, .int .i32 0, .int .i32 0, .int .i32 0]
  simp only [size_alloc] at b1
  have hc := ((Chg.refl w []).alloc (.cells #[.slice A n m] 26)).alloc (.cells #[.int .i32 0, .int .i32 0, .int .i32 0, .int .i32 0, .int .i32 0, .int .i32 0, .int .i32 0, .int .i32 0, .int .i32 0] 65)
  have uc0 := b1.cell' (i := 0) rfl
  have uf0 := b1.frozen 0
  have uc1 := b1.cell' (i := 1) rfl
  have uf1 := b1.frozen 1
  have uc2 := b1.cell' (i := 2) rfl
  have uf2 := b1.frozen 2
  have uc3 := b1.cell' (i := 3) rfl
  have uf3 := b1.frozen 3
  have uc4 := b1.cell' (i := 4) rfl
  have uf4 := b1.frozen 4
  have uc5 := b1.cell' (i := 5) rfl
  have uf5 := b1.frozen 5
  have uc6 := b1.cell' (i := 6) rfl
  have uf6 := b1.frozen 6
  have uc7 := b1.cell' (i := 7) rfl
  have uf7 := b1.frozen 7
  have uc8 := b1.cell' (i := 8) rfl
  have uf8 := b1.frozen 8
  unfold zero9
  by_cases h : n < 20
  · have e : errLen n = 4 := by unfold errLen; rw [if_pos h]
    have k0 : decide ((n : Int) < 20) = true := by simp; omega
    rw [e]
    clear e
    go_enter Tryz.func28, Tryz.ntmps28
    go_wp2_with fail
    refine bodyPost_ret (results_ctt rfl _ _ _ (A := ⟨w.heap.size + 1, 0, none⟩) rfl (v := .agg #[.int .i32 0, .int .i32 0, .int .i32 0, .int .i32 0, .int .i32 0, .int .i32 0, .int .i32 0, .int .i32 0, .int .i32 0]) ?_) rfl ?_
    · go_simp
    · exact ⟨rfl, hc⟩
  · have e : errLen n = 5 := by unfold errLen; rw [if_neg h]
    have k0 : decide ((n : Int) < 20) = false := by simp; omega
    have k1 : decide ((n : Int) > 20) = true := by simp; omega
    rw [e]
    clear e
    go_enter Tryz.func28, Tryz.ntmps28
    go_wp2_with fail
    refine bodyPost_ret (results_ctt rfl _ _ _ (A := ⟨w.heap.size + 1, 0, none⟩) rfl (v := .agg #[.int .i32 0, .int .i32 0, .int .i32 0, .int .i32 0, .int .i32 0, .int .i32 0, .int .i32 0, .int .i32 0, .int .i32 0]) ?_) rfl ?_
    · go_simp
    · exact ⟨rfl, hc⟩
set_option maxRecDepth 100000 in
set_option maxHeartbeats 2000000 in
theorem rread_len (A : Option Addr) (n m : Nat) (hn : n ≠ 20) (hm : n ≤ maxLen) (w : World) : Calls Tryz.prog 31 #[.slice A n m] w fun e w' => e = .returned (.tuple #[zero9, .bool false, .int .i64 (errLen n)]) ∧ Chg w w' [] := by
  have b1 := Blk.new w 65 [.int .i32 0, .int .i32 0, .int .i32 0, .int .i32 0, .int .i32 0, .int .i32 0, .int .i32 0, .int .i32 0, .int .i32 0]
  have hc := (Chg.refl w []).alloc (.cells #[.int .i32 0, .int .i32 0, .int .i32 0, .int .i32 0, .int .i32 0, .int .i32 0, .int .i32 0, .int .i32 0, .int .i32 0] 65)
  have uc0 := b1.cell' (i := 0) rfl
  have uf0 := b1.frozen 0
  have uc1 := b1.cell' (i := 1) rfl
  have uf1 := b1.frozen 1
  have uc2 := b1.cell' (i := 2) rfl
  have uf2 := b1.frozen 2
  have uc3 := b1.cell' (i := 3) rfl
  have uf3 := b1.frozen 3
  have uc4 := b1.cell' (i := 4) rfl
  have uf4 := b1.frozen 4
  have uc5 := b1.cell' (i := 5) rfl
  have uf5 := b1.frozen 5
  have uc6 := b1.cell' (i := 6) rfl
  have uf6 := b1.frozen 6
  have uc7 := b1.cell' (i := 7) rfl
  have uf7 := b1.frozen 7
  have uc8 := b1.cell' (i := 8) rfl
  have uf8 := b1.frozen 8
  unfold zero9
  by_cases h : n < 20
  · have e : errLen n = 4 := by unfold errLen; rw [if_pos h]
    have k0 : decide ((n : Int) < 20) = true := by simp; omega
    rw [e]
    clear e
    go_enter Tryz.func31, Tryz.ntmps31
    go_wp2_with fail
    refine bodyPost_ret (results_ctt rfl _ _ _ (A := ⟨w.heap.size, 0, none⟩) rfl (v := .agg #[.int .i32 0, .int .i32 0, .int .i32 0, .int .i32 0, .int .i32 0, .int .i32 0, .int .i32 0, .int .i32 0, .int .i32 0]) ?_) rfl ?_
    · go_simp
    · exact ⟨rfl, hc⟩
  · have e : errLen n = 5 := by unfold errLen; rw [if_neg h]
    have k0 : decide ((n : Int) < 20) = false := by simp; omega
    have k1 : decide ((n : Int) > 20) = true := by simp; omega
    rw [e]
    clear e
    go_enter Tryz.func31, Tryz.ntmps31
    go_wp2_with fail
    refine bodyPost_ret (results_ctt rfl _ _ _ (A := ⟨w.heap.size, 0, none⟩) rfl (v := .agg #[.int .i32 0, .int .i32 0, .int .i32 0, .int .i32 0, .int .i32 0, .int .i32 0, .int .i32 0, .int .i32 0, .int .i32 0]) ?_) rfl ?_
    · go_simp
    · exact ⟨rfl, hc⟩
set_option maxRecDepth 100000 in
set_option maxHeartbeats 4000000 in
theorem pfeed_len {x : St} (hr : x.right) (A : Option Addr) (n m : Nat) (hn : n ≠ 20) (hm : n ≤ maxLen) (w : World) :
    Calls Tryz.prog 10 #[x.val, .slice A n m] w fun e w' => e = .returned (.tuple #[x.val, .slice none 0 0, .int .i64 (errLen n)]) ∧ Chg w w' [] := by
  obtain ⟨h1, h2, h3⟩ := hr
  have hgs := good_in7 (a := x.q.a) (b := x.q.b) (c := x.q.c) (d := x.q.d) (good_16 h1) (good_16 h2) (good_16 h3)
  have HR := fun w => hide (pright_calls x.q.a x.q.b x.q.c x.q.d x.s x.f x.g hgs w)
  rw [(rightB_iff x.s x.f x.g).2 ⟨h1, h2, h3⟩] at HR
  have HE := hide (show (errLen n != 0) = true by unfold errLen; split <;> rfl)
  show Calls Tryz.prog 10 #[stV x.q.a x.q.b x.q.c x.q.d x.s x.f x.g, .slice A n m] w fun e w' => e = .returned (.tuple #[stV x.q.a x.q.b x.q.c x.q.d x.s x.f x.g, .slice none 0 0, .int .i64 (errLen n)]) ∧ Chg w w' []
  have RL := fun w => hide (read_len A n m hn hm w)
  generalize errLen n = E at *
  unfold stV at *
  clear hgs
  have b0 := (Blk.new w 25 [.int .i32 x.q.a.v, .int .i32 x.q.b.v, .int .i32 x.q.c.v, .int .i32 x.q.d.v, .int .i64 x.s, .int .i64 x.f, .int .i64 x.g]).alloc (.cells #[.int .i32 0, .int .i32 0, .int .i32 0, .int .i32 0, .int .i64 0, .int .i64 0, .int .i64 0] 25)
  have b1 := Blk.new (w.alloc (.cells #[.int .i32 x.q.a.v, .int .i32 x.q.b.v, .int .i32 x.q.c.v, .int .i32 x.q.d.v, .int .i64 x.s, .int .i64 x.f, .int .i64 x.g] 25)) 25 [.int .i32 0, .int .i32 0, .int .i32 0, .int .i32 0, .int .i64 0, .int .i64 0, .int .i64 0]
  simp only [size_alloc] at b1
  have hc := ((Chg.refl w []).alloc (.cells #[.int .i32 x.q.a.v, .int .i32 x.q.b.v, .int .i32 x.q.c.v, .int .i32 x.q.d.v, .int .i64 x.s, .int .i64 x.f, .int .i64 x.g] 25)).alloc (.cells #[.int .i32 0, .int .i32 0, .int .i32 0, .int .i32 0, .int .i64 0, .int .i64 0, .int .i64 0] 25)
  go_enter Tryz.func10, Tryz.ntmps10
  go_wp2_with fail
  refine (HR _).out.mono ?_
  rintro e w3 ⟨rfl, hc3⟩
  replace hc := hc.trans hc3 (D := []) (by simp)
  replace b0 := b0.chg hc3 (by simp)
  replace b1 := b1.chg hc3 (by simp)
  clear hc3
  have uc0 := b0.cell' (i := 0) rfl
  have uf0 := b0.frozen 0
  have uc1 := b0.cell' (i := 1) rfl
  have uf1 := b0.frozen 1
  have uc2 := b0.cell' (i := 2) rfl
  have uf2 := b0.frozen 2
  have uc3 := b0.cell' (i := 3) rfl
  have uf3 := b0.frozen 3
  have uc4 := b0.cell' (i := 4) rfl
  have uf4 := b0.frozen 4
  have uc5 := b0.cell' (i := 5) rfl
  have uf5 := b0.frozen 5
  have uc6 := b0.cell' (i := 6) rfl
  have uf6 := b0.frozen 6
  go_wp2_with fail
  refine (RL w3).out.mono ?_
  unfold zero9
  rintro e w4 ⟨rfl, hc4⟩
  replace hc := hc.trans hc4 (D := []) (by simp)
  replace b0 := b0.chg hc4 (by simp)
  replace b1 := b1.chg hc4 (by simp)
  clear hc4
  clear uc0 uf0 uc1 uf1 uc2 uf2 uc3 uf3 uc4 uf4 uc5 uf5 uc6 uf6
  have hk := HE.out
  go_upto_region 5 with (fail)
  replace b0 := b0.alloc (.cells #[.int .i32 0, .int .i32 0, .int .i32 0, .int .i32 0, .int .i32 0, .int .i32 0, .int .i32 0, .int .i32 0, .int .i32 0] 65)
  replace b1 := b1.alloc (.cells #[.int .i32 0, .int .i32 0, .int .i32 0, .int .i32 0, .int .i32 0, .int .i32 0, .int .i32 0, .int .i32 0, .int .i32 0] 65)
  replace hc := hc.alloc (.cells #[.int .i32 0, .int .i32 0, .int .i32 0, .int .i32 0, .int .i32 0, .int .i32 0, .int .i32 0, .int .i32 0, .int .i32 0] 65)
  generalize (w4.alloc (.cells #[.int .i32 0, .int .i32 0, .int .i32 0, .int .i32 0, .int .i32 0, .int .i32 0, .int .i32 0, .int .i32 0, .int .i32 0] 65)) = w5 at *
  have uc0 := b0.cell' (i := 0) rfl
  have uf0 := b0.frozen 0
  have uc1 := b0.cell' (i := 1) rfl
  have uf1 := b0.frozen 1
  have uc2 := b0.cell' (i := 2) rfl
  have uf2 := b0.frozen 2
  have uc3 := b0.cell' (i := 3) rfl
  have uf3 := b0.frozen 3
  have uc4 := b0.cell' (i := 4) rfl
  have uf4 := b0.frozen 4
  have uc5 := b0.cell' (i := 5) rfl
  have uf5 := b0.frozen 5
  have uc6 := b0.cell' (i := 6) rfl
  have uf6 := b0.frozen 6
  have vc0 := b1.cell' (i := 0) rfl
  have vf0 := b1.frozen 0
  have vc1 := b1.cell' (i := 1) rfl
  have vf1 := b1.frozen 1
  have vc2 := b1.cell' (i := 2) rfl
  have vf2 := b1.frozen 2
  have vc3 := b1.cell' (i := 3) rfl
  have vf3 := b1.frozen 3
  have vc4 := b1.cell' (i := 4) rfl
  have vf4 := b1.frozen 4
  have vc5 := b1.cell' (i := 5) rfl
  have vf5 := b1.frozen 5
  have vc6 := b1.cell' (i := 6) rfl
  have vf6 := b1.frozen 6
  go_wp2_with fail
  change bodyPost _ _ _ _ _ (put7 w5 (w.heap.size + 1) (.int .i32 x.q.a.v) (.int .i32 x.q.b.v) (.int .i32 x.q.c.v) (.int .i32 x.q.d.v) (.int .i64 x.s) (.int .i64 x.f) (.int .i64 x.g))
  have hcf := put7_chg w5 (w.heap.size + 1) (.int .i32 x.q.a.v) (.int .i32 x.q.b.v) (.int .i32 x.q.c.v) (.int .i32 x.q.d.v) (.int .i64 x.s) (.int .i64 x.f) (.int .i64 x.g)
  have kf := put7_blk b1 (.int .i32 x.q.a.v) (.int .i32 x.q.b.v) (.int .i32 x.q.c.v) (.int .i32 x.q.d.v) (.int .i64 x.s) (.int .i64 x.f) (.int .i64 x.g)
  replace hc := hc.trans hcf (D := []) (fun k hk => by simp at hk; omega)
  generalize put7 w5 (w.heap.size + 1) (.int .i32 x.q.a.v) (.int .i32 x.q.b.v) (.int .i32 x.q.c.v) (.int .i32 x.q.d.v) (.int .i64 x.s) (.int .i64 x.f) (.int .i64 x.g) = wf at *
  have tc0 := kf.cell' (i := 0) rfl
  have tc1 := kf.cell' (i := 1) rfl
  have tc2 := kf.cell' (i := 2) rfl
  have tc3 := kf.cell' (i := 3) rfl
  have tc4 := kf.cell' (i := 4) rfl
  have tc5 := kf.cell' (i := 5) rfl
  have tc6 := kf.cell' (i := 6) rfl
  refine bodyPost_ret (results_ctt rfl _ _ _ (A := ⟨w.heap.size + 1, 0, none⟩) rfl (v := .agg #[.int .i32 x.q.a.v, .int .i32 x.q.b.v, .int .i32 x.q.c.v, .int .i32 x.q.d.v, .int .i64 x.s, .int .i64 x.f, .int .i64 x.g]) ?_) rfl ?_
  · go_simp
  · exact ⟨rfl, hc⟩
set_option maxRecDepth 100000 in
set_option maxHeartbeats 4000000 in
theorem rfeed_len {x : St} (hr : x.right) (A : Option Addr) (n m : Nat) (hn : n ≠ 20) (hm : n ≤ maxLen) (w : World) :
    Calls Tryz.prog 11 #[x.val, .slice A n m] w fun e w' => e = .returned (.tuple #[x.val, .slice none 0 0, .int .i64 (errLen n)]) ∧ Chg w w' [] := by
  obtain ⟨h1, h2, h3⟩ := hr
  have hgs := good_in7 (a := x.q.a) (b := x.q.b) (c := x.q.c) (d := x.q.d) (good_16 h1) (good_16 h2) (good_16 h3)
  have HR := fun w => hide (rright_calls x.q.a x.q.b x.q.c x.q.d x.s x.f x.g hgs w)
  rw [(rightB_iff x.s x.f x.g).2 ⟨h1, h2, h3⟩] at HR
  have HE := hide (show (errLen n != 0) = true by unfold errLen; split <;> rfl)
  show Calls Tryz.prog 11 #[stV x.q.a x.q.b x.q.c x.q.d x.s x.f x.g, .slice A n m] w fun e w' => e = .returned (.tuple #[stV x.q.a x.q.b x.q.c x.q.d x.s x.f x.g, .slice none 0 0, .int .i64 (errLen n)]) ∧ Chg w w' []
  have RL := fun w => hide (rread_len A n m hn hm w)
  generalize errLen n = E at *
  unfold stV at *
  clear hgs
  have b0 := (Blk.new w 25 [.int .i32 x.q.a.v, .int .i32 x.q.b.v, .int .i32 x.q.c.v, .int .i32 x.q.d.v, .int .i64 x.s, .int .i64 x.f, .int .i64 x.g]).alloc (.cells #[.int .i32 0, .int .i32 0, .int .i32 0, .int .i32 0, .int .i64 0, .int .i64 0, .int .i64 0] 25)
  have b1 := Blk.new (w.alloc (.cells #[.int .i32 x.q.a.v, .int .i32 x.q.b.v, .int .i32 x.q.c.v, .int .i32 x.q.d.v, .int .i64 x.s, .int .i64 x.f, .int .i64 x.g] 25)) 25 [.int .i32 0, .int .i32 0, .int .i32 0, .int .i32 0, .int .i64 0, .int .i64 0, .int .i64 0]
  simp only [size_alloc] at b1
  have hc := ((Chg.refl w []).alloc (.cells #[.int .i32 x.q.a.v, .int .i32 x.q.b.v, .int .i32 x.q.c.v, .int .i32 x.q.d.v, .int .i64 x.s, .int .i64 x.f, .int .i64 x.g] 25)).alloc (.cells #[.int .i32 0, .int .i32 0, .int .i32 0, .int .i32 0, .int .i64 0, .int .i64 0, .int .i64 0] 25)
  go_enter Tryz.func11, Tryz.ntmps11
  go_wp2_with fail
  refine (HR _).out.mono ?_
  rintro e w3 ⟨rfl, hc3⟩
  replace hc := hc.trans hc3 (D := []) (by simp)
  replace b0 := b0.chg hc3 (by simp)
  replace b1 := b1.chg hc3 (by simp)
  clear hc3
  have uc0 := b0.cell' (i := 0) rfl
  have uf0 := b0.frozen 0
  have uc1 := b0.cell' (i := 1) rfl
  have uf1 := b0.frozen 1
  have uc2 := b0.cell' (i := 2) rfl
  have uf2 := b0.frozen 2
  have uc3 := b0.cell' (i := 3) rfl
  have uf3 := b0.frozen 3
  have uc4 := b0.cell' (i := 4) rfl
  have uf4 := b0.frozen 4
  have uc5 := b0.cell' (i := 5) rfl
  have uf5 := b0.frozen 5
  have uc6 := b0.cell' (i := 6) rfl
  have uf6 := b0.frozen 6
  go_wp2_with fail
  refine (RL w3).out.mono ?_
  unfold zero9
  rintro e w4 ⟨rfl, hc4⟩
  replace hc := hc.trans hc4 (D := []) (by simp)
  replace b0 := b0.chg hc4 (by simp)
  replace b1 := b1.chg hc4 (by simp)
  clear hc4
  clear uc0 uf0 uc1 uf1 uc2 uf2 uc3 uf3 uc4 uf4 uc5 uf5 uc6 uf6
  have hk := HE.out
  go_upto_region 5 with (fail)
  replace b0 := b0.alloc (.cells #[.int .i32 0, .int .i32 0, .int .i32 0, .int .i32 0, .int .i32 0, .int .i32 0, .int .i32 0, .int .i32 0, .int .i32 0] 65)
  replace b1 := b1.alloc (.cells #[.int .i32 0, .int .i32 0, .int .i32 0, .int .i32 0, .int .i32 0, .int .i32 0, .int .i32 0, .int .i32 0, .int .i32 0] 65)
  replace hc := hc.alloc (.cells #[.int .i32 0, .int .i32 0, .int .i32 0, .int .i32 0, .int .i32 0, .int .i32 0, .int .i32 0, .int .i32 0, .int .i32 0] 65)
  generalize (w4.alloc (.cells #[.int .i32 0, .int .i32 0, .int .i32 0, .int .i32 0, .int .i32 0, .int .i32 0, .int .i32 0, .int .i32 0, .int .i32 0] 65)) = w5 at *
  have uc0 := b0.cell' (i := 0) rfl
  have uf0 := b0.frozen 0
  have uc1 := b0.cell' (i := 1) rfl
  have uf1 := b0.frozen 1
  have uc2 := b0.cell' (i := 2) rfl
  have uf2 := b0.frozen 2
  have uc3 := b0.cell' (i := 3) rfl
  have uf3 := b0.frozen 3
  have uc4 := b0.cell' (i := 4) rfl
  have uf4 := b0.frozen 4
  have uc5 := b0.cell' (i := 5) rfl
  have uf5 := b0.frozen 5
  have uc6 := b0.cell' (i := 6) rfl
  have uf6 := b0.frozen 6
  have vc0 := b1.cell' (i := 0) rfl
  have vf0 := b1.frozen 0
  have vc1 := b1.cell' (i := 1) rfl
  have vf1 := b1.frozen 1
  have vc2 := b1.cell' (i := 2) rfl
  have vf2 := b1.frozen 2
  have vc3 := b1.cell' (i := 3) rfl
  have vf3 := b1.frozen 3
  have vc4 := b1.cell' (i := 4) rfl
  have vf4 := b1.frozen 4
  have vc5 := b1.cell' (i := 5) rfl
  have vf5 := b1.frozen 5
  have vc6 := b1.cell' (i := 6) rfl
  have vf6 := b1.frozen 6
  go_wp2_with fail
  change bodyPost _ _ _ _ _ (put7 w5 (w.heap.size + 1) (.int .i32 x.q.a.v) (.int .i32 x.q.b.v) (.int .i32 x.q.c.v) (.int .i32 x.q.d.v) (.int .i64 x.s) (.int .i64 x.f) (.int .i64 x.g))
  have hcf := put7_chg w5 (w.heap.size + 1) (.int .i32 x.q.a.v) (.int .i32 x.q.b.v) (.int .i32 x.q.c.v) (.int .i32 x.q.d.v) (.int .i64 x.s) (.int .i64 x.f) (.int .i64 x.g)
  have kf := put7_blk b1 (.int .i32 x.q.a.v) (.int .i32 x.q.b.v) (.int .i32 x.q.c.v) (.int .i32 x.q.d.v) (.int .i64 x.s) (.int .i64 x.f) (.int .i64 x.g)
  replace hc := hc.trans hcf (D := []) (fun k hk => by simp at hk; omega)
  generalize put7 w5 (w.heap.size + 1) (.int .i32 x.q.a.v) (.int .i32 x.q.b.v) (.int .i32 x.q.c.v) (.int .i32 x.q.d.v) (.int .i64 x.s) (.int .i64 x.f) (.int .i64 x.g) = wf at *
  have tc0 := kf.cell' (i := 0) rfl
  have tc1 := kf.cell' (i := 1) rfl
  have tc2 := kf.cell' (i := 2) rfl
  have tc3 := kf.cell' (i := 3) rfl
  have tc4 := kf.cell' (i := 4) rfl
  have tc5 := kf.cell' (i := 5) rfl
  have tc6 := kf.cell' (i := 6) rfl
  refine bodyPost_ret (results_ctt rfl _ _ _ (A := ⟨w.heap.size + 1, 0, none⟩) rfl (v := .agg #[.int .i32 x.q.a.v, .int .i32 x.q.b.v, .int .i32 x.q.c.v, .int .i32 x.q.d.v, .int .i64 x.s, .int .i64 x.f, .int .i64 x.g]) ?_) rfl ?_
  · go_simp
  · exact ⟨rfl, hc⟩
/-- What Feed answers. -/
def feedR (x : St) (xs : List Nat) : St × List Nat × Int := bif x.rb then (bif decide (xs.length = 20) then (x.next xs, (x.next xs).frame (flN xs), 0) else (x, [], errLen xs.length)) else (x, [], 14)
def feedC (w : World) (x : St) (xs : List Nat) (e : Ending) (w' : World) : Prop := (∃ sv, e = .returned (.tuple #[(feedR x xs).1.val, sv, .int .i64 (feedR x xs).2.2]) ∧ Sl w' sv (u8s (feedR x xs).2.1)) ∧ Chg w w' []
theorem three_nil {w' : World} {us : List Value} {v : Value} {n : Int} (ha : ArgsOk [] w' us [.v v, nilS, .v (.int .i64 n)]) : ∃ sv, Ending.returned (outV true us) = .returned (.tuple #[v, sv, .int .i64 n]) ∧ Sl w' sv (u8s []) := by
  match us, ha with
  | [x, y, z], ha =>
    obtain ⟨rfl, rfl, rfl, _⟩ := ha
    exact ⟨_, rfl, nil_sl _⟩
theorem pfeed (x : St) (hx : x.i64) (xs : List Nat) (hb : ∀ y ∈ xs, y < 256) (hn : xs.length ≤ maxLen) (v : Value) (w : World) (hw : FTab w) (hv : Sl w v (u8s xs)) : Calls Tryz.prog 10 #[x.val, v] w fun e w' => feedC w x xs e w' := by
  obtain ⟨A, c, rfl, hcap, hA⟩ := hv
  have hsl : Sl w (.slice A (u8s xs).length c) (u8s xs) := ⟨A, c, rfl, hcap, hA⟩
  rw [u8s_length] at *
  cases hrb : x.rb with
  | false =>
    have hr : ObOk Tryz.prog (rightO x.q.a x.q.b x.q.c x.q.d x.s x.f x.g false) := fun w => by
      have := pright_calls x.q.a x.q.b x.q.c x.q.d x.s x.f x.g (x.good hx) w
      rwa [show rightB x.s x.f x.g = false from hrb] at this
    have e : feedR x xs = (x, [], 14) := by unfold feedR; rw [hrb]; rfl
    unfold feedC
    rw [e]
    refine (seenF_calls noE (pfeed_run14 x.q.a x.q.b x.q.c x.q.d x.s x.f x.g A xs.length c) (x.good hx) (obsKC (obK hr) obsK0) w hw [] (fun i cs hi => by cases hi) (fun v hv => by cases hv) (vals := [x.val, .slice A xs.length c]) rfl).mono ?_
    rintro e w' ⟨⟨us, ha, rfl⟩, hc⟩
    exact ⟨three_nil ha, hc⟩
  | true =>
    have hr := x.rb_iff.1 hrb
    by_cases h20 : xs.length = 20
    · have e : feedR x xs = (x.next xs, (x.next xs).frame (flN xs), 0) := by unfold feedR; rw [hrb, decide_eq_true h20]; rfl
      unfold feedC
      rw [e]
      obtain ⟨b, o, rfl, _⟩ := hA (by omega)
      rw [h20] at hsl ⊢
      exact pfeed_ok hr h20 hb b o c w hw hsl
    · have e : feedR x xs = (x, [], errLen xs.length) := by unfold feedR; rw [hrb, decide_eq_false h20]; rfl
      unfold feedC
      rw [e]
      refine (pfeed_len hr A xs.length c h20 hn w).mono ?_
      rintro e w' ⟨rfl, hc⟩
      exact ⟨⟨_, rfl, nil_sl _⟩, hc⟩
theorem rfeed (x : St) (hx : x.i64) (xs : List Nat) (hb : ∀ y ∈ xs, y < 256) (hn : xs.length ≤ maxLen) (v : Value) (w : World) (hw : FTab w) (hv : Sl w v (u8s xs)) : Calls Tryz.prog 11 #[x.val, v] w fun e w' => feedC w x xs e w' := by
  obtain ⟨A, c, rfl, hcap, hA⟩ := hv
  have hsl : Sl w (.slice A (u8s xs).length c) (u8s xs) := ⟨A, c, rfl, hcap, hA⟩
  rw [u8s_length] at *
  cases hrb : x.rb with
  | false =>
    have hr : ObOk Tryz.prog (rRightO x.q.a x.q.b x.q.c x.q.d x.s x.f x.g false) := fun w => by
      have := rright_calls x.q.a x.q.b x.q.c x.q.d x.s x.f x.g (x.good hx) w
      rwa [show rightB x.s x.f x.g = false from hrb] at this
    have e : feedR x xs = (x, [], 14) := by unfold feedR; rw [hrb]; rfl
    unfold feedC
    rw [e]
    refine (seenF_calls noE (rfeed_run14 x.q.a x.q.b x.q.c x.q.d x.s x.f x.g A xs.length c) (x.good hx) (obsKC (obK hr) obsK0) w hw [] (fun i cs hi => by cases hi) (fun v hv => by cases hv) (vals := [x.val, .slice A xs.length c]) rfl).mono ?_
    rintro e w' ⟨⟨us, ha, rfl⟩, hc⟩
    exact ⟨three_nil ha, hc⟩
  | true =>
    have hr := x.rb_iff.1 hrb
    by_cases h20 : xs.length = 20
    · have e : feedR x xs = (x.next xs, (x.next xs).frame (flN xs), 0) := by unfold feedR; rw [hrb, decide_eq_true h20]; rfl
      unfold feedC
      rw [e]
      obtain ⟨b, o, rfl, _⟩ := hA (by omega)
      rw [h20] at hsl ⊢
      exact rfeed_ok hr h20 hb w hw hsl
    · have e : feedR x xs = (x, [], errLen xs.length) := by unfold feedR; rw [hrb, decide_eq_false h20]; rfl
      unfold feedC
      rw [e]
      refine (rfeed_len hr A xs.length c h20 hn w).mono ?_
      rintro e w' ⟨rfl, hc⟩
      exact ⟨⟨_, rfl, nil_sl _⟩, hc⟩
end Go.Proofs.YtihgijhjhmjolaaGreatDoor

/- The reference's Get of a frame. -/
namespace Go.Proofs.YtihgijhjhmjolaaGreatDoor.Xi
open Go Go.RowKit Go.Deep
set_option linter.unusedVariables false
def gsh : List (FuncId × Sh) := [(137, .one), (40, .one), (79, .one)]
noncomputable def gtab : List (EntK FTab) := [rStepE.k, rPairE.k, lowE.k]
def gsumO (B : Nat → Int) (r : Bool) : Ob := .test (.bin .neq 9) [.string (bstr (rSeal (front B 30))), .string (bstr (front B 32))] (.bool r)
def h1 (n b : Int) : Int := IntKind.i64.wrap (IntKind.i64.wrap (256 * n) + IntKind.i64.wrap b)
def n2 (B : Nat → Int) (k : Nat) : Int := h1 (IntKind.i64.wrap (B k)) (B (k + 1))
def n4 (B : Nat → Int) (k : Nat) : Int := (kW (h1 (h1 (h1 (h1 0 (B k)) (B (k + 1))) (B (k + 2))) (B (k + 3)))).v
def getV (B : Nat → Int) : Value := .agg #[.int .i64 (IntKind.i64.wrap (B 1)), .int .i64 (n2 B 2), .int .i64 (n2 B 4), .int .i64 (n2 B 6), .int .i32 (n4 B 8), .int .i32 (n4 B 12), .int .i32 (n4 B 16), .int .i32 (n4 B 20), .int .i32 (pairI (B 24) (B 25)), .int .i32 (pairI (B 26) (B 27)), .int .i32 (pairI (B 28) (B 29))]
set_option maxRecDepth 100000 in
theorem get_run (B : Nat → Int) : runS (cxV [] gsh [(68, false), (69, false), (70, false)] [opqs 32 0]) (tabK gtab) 3000 15 [opqs 32 0] [.vw 1000000 0 32] (vb B 32) =
    some (true, [.v (getV B), .v (.int .i64 0)], [.test (.bin .gtr 5) [.int .u8 (B 1), .int .u8 15] (.bool false), .test (.bin .neq 5) [.int .u8 (B 0), .int .u8 1] (.bool false), gsumO B false]) := by kernel_rfl
end Go.Proofs.YtihgijhjhmjolaaGreatDoor.Xi

/- The reference's Get of a frame that was told. -/
namespace Go.Proofs.YtihgijhjhmjolaaGreatDoor.Xi
open Go Go.RowKit Go.Deep
set_option linter.unusedVariables false
/-- The report of a frame. -/
def St.rep (x : St) (fl : Int) : Value := .agg #[.int .i64 (fl + (bif lockB x.q.a x.q.b x.q.c x.q.d then 8 else 0)), .int .i64 x.s, .int .i64 x.f, .int .i64 x.g, .int .i32 x.q.a.v, .int .i32 x.q.b.v, .int .i32 x.q.c.v, .int .i32 x.q.d.v,
  .int .i32 ((anglesW x.q.a x.q.b x.q.c x.q.d).a.v / 65536), .int .i32 ((anglesW x.q.a x.q.b x.q.c x.q.d).b.v / 65536), .int .i32 ((anglesW x.q.a x.q.b x.q.c x.q.d).c.v / 65536)]
theorem wr (b : Nat) (h : b < 256) : IntKind.i64.wrap (b : Int) = b := wrapN b (by omega)
theorem h1_eq {n : Int} {b : Nat} (hn : 0 ≤ n ∧ n ≤ 16777216) (hb : b < 256) : h1 n b = 256 * n + b := by
  unfold h1
  rw [wr b hb, show IntKind.i64.wrap (256 * n) = 256 * n by rw [IntKind.wrap_i64]; omega, IntKind.wrap_i64]
  omega
theorem n2_back {s : Int} (h : in16 s) : h1 (IntKind.i64.wrap (byteN s 256 : Nat)) (byteN s 1 : Nat) = s := by
  have l1 := byteN_lt s 256
  have l2 := byteN_lt s 1
  rw [wr _ l1, h1_eq (by omega) l2]
  unfold in16 at h
  unfold byteN
  omega
theorem n4_back (x : Wd) : (kW (h1 (h1 (h1 (h1 0 (byteN x.v 16777216 : Nat)) (byteN x.v 65536 : Nat)) (byteN x.v 256 : Nat)) (byteN x.v 1 : Nat))).v = x.v := by
  have l0 := byteN_lt x.v 16777216
  have l1 := byteN_lt x.v 65536
  have l2 := byteN_lt x.v 256
  have l3 := byteN_lt x.v 1
  have hx := wdB x
  rw [h1_eq (n := 0) (by omega) l0, h1_eq (n := 256 * 0 + ((byteN x.v 16777216 : Nat) : Int)) (by omega) l1, h1_eq (n := 256 * (256 * 0 + ((byteN x.v 16777216 : Nat) : Int)) + ((byteN x.v 65536 : Nat) : Int)) (by omega) l2, h1_eq (by omega) l3]
  have e : 256 * (256 * (256 * (256 * 0 + ((byteN x.v 16777216 : Nat) : Int)) + ((byteN x.v 65536 : Nat) : Int)) + ((byteN x.v 256 : Nat) : Int)) + ((byteN x.v 1 : Nat) : Int) = x.v % 4294967296 := by
    unfold byteN
    omega
  rw [e]
  show wrap32 (x.v % 4294967296) = x.v
  unfold wrap32
  omega
theorem pair_back {y : Int} (h : -32768 ≤ y ∧ y ≤ 32767) : pairI (byteN y 256 : Nat) (byteN y 1 : Nat) = y := by
  unfold pairI byteN
  omega
theorem frame_len (x : St) (fl : Int) : (x.frame fl).length = 32 := rfl
theorem body_lt (a b c d : Wd) (s f g : Int) {fl : Int} (h : 0 ≤ fl ∧ fl ≤ 7) : ∀ y ∈ bodyN a b c d s f g fl, y < 256 := fun y hy => by
  have h1 : (fl + (bif lockB a b c d then 8 else 0)).toNat < 256 := by cases lockB a b c d <;> simp <;> omega
  simp only [bodyN, b2, b4, List.cons_append, List.nil_append, List.mem_cons, List.not_mem_nil, or_false] at hy
  rcases hy with rfl | rfl | hy
  · decide
  · exact h1
  · rcases hy with rfl | rfl | rfl | rfl | rfl | rfl | rfl | rfl | rfl | rfl | rfl | rfl | rfl | rfl | rfl | rfl | rfl | rfl | rfl | rfl | rfl | rfl | rfl | rfl | rfl | rfl | rfl | rfl <;> exact byteN_lt _ _
theorem frame_lt (x : St) {fl : Int} (h : 0 ≤ fl ∧ fl ≤ 7) : ∀ y ∈ x.frame fl, y < 256 := sealN_lt (body_lt _ _ _ _ _ _ _ h)
theorem gview {xs : List Nat} (h : xs.length = 32) : vb (xI xs) 32 = u8s xs ∧ front (xI xs) 32 = nI xs ∧ front (xI xs) 30 = nI (xs.take 30) := by
  match xs, h with
  | [x0, x1, x2, x3, x4, x5, x6, x7, x8, x9, x10, x11, x12, x13, x14, x15, x16, x17, x18, x19, x20, x21, x22, x23, x24, x25, x26, x27, x28, x29, x30, x31], _ => exact ⟨rfl, rfl, rfl⟩
theorem gconc {xs : List Nat} (h : xs.length = 32) : concL (getE (vb (xI xs) 32)) (opqs 32 0) = u8s xs := by
  match xs, h with
  | [x0, x1, x2, x3, x4, x5, x6, x7, x8, x9, x10, x11, x12, x13, x14, x15, x16, x17, x18, x19, x20, x21, x22, x23, x24, x25, x26, x27, x28, x29, x30, x31], _ => rfl
theorem get_rep (x : St) (hr : x.right) {fl : Int} (h : 0 ≤ fl ∧ fl ≤ 7) : getV (xI (x.frame fl)) = x.rep fl := by
  have hF : IntKind.i64.wrap (((fl + (bif lockB x.q.a x.q.b x.q.c x.q.d then 8 else 0)).toNat : Nat) : Int) = fl + (bif lockB x.q.a x.q.b x.q.c x.q.d then 8 else 0) := by
    rw [IntKind.wrap_i64]
    cases lockB x.q.a x.q.b x.q.c x.q.d <;> simp <;> omega
  have ha : ∀ y : Wd, -32768 ≤ y.v / 65536 ∧ y.v / 65536 ≤ 32767 := fun y => by have := wdB y; omega
  have e : getV (xI (x.frame fl)) = .agg #[.int .i64 (IntKind.i64.wrap (((fl + (bif lockB x.q.a x.q.b x.q.c x.q.d then 8 else 0)).toNat : Nat) : Int)), .int .i64 (h1 (IntKind.i64.wrap (byteN x.s 256 : Nat)) (byteN x.s 1 : Nat)), .int .i64 (h1 (IntKind.i64.wrap (byteN x.f 256 : Nat)) (byteN x.f 1 : Nat)), .int .i64 (h1 (IntKind.i64.wrap (byteN x.g 256 : Nat)) (byteN x.g 1 : Nat)),
      .int .i32 (kW (h1 (h1 (h1 (h1 0 (byteN x.q.a.v 16777216 : Nat)) (byteN x.q.a.v 65536 : Nat)) (byteN x.q.a.v 256 : Nat)) (byteN x.q.a.v 1 : Nat))).v, .int .i32 (kW (h1 (h1 (h1 (h1 0 (byteN x.q.b.v 16777216 : Nat)) (byteN x.q.b.v 65536 : Nat)) (byteN x.q.b.v 256 : Nat)) (byteN x.q.b.v 1 : Nat))).v,
      .int .i32 (kW (h1 (h1 (h1 (h1 0 (byteN x.q.c.v 16777216 : Nat)) (byteN x.q.c.v 65536 : Nat)) (byteN x.q.c.v 256 : Nat)) (byteN x.q.c.v 1 : Nat))).v, .int .i32 (kW (h1 (h1 (h1 (h1 0 (byteN x.q.d.v 16777216 : Nat)) (byteN x.q.d.v 65536 : Nat)) (byteN x.q.d.v 256 : Nat)) (byteN x.q.d.v 1 : Nat))).v,
      .int .i32 (pairI (byteN ((anglesW x.q.a x.q.b x.q.c x.q.d).a.v / 65536) 256 : Nat) (byteN ((anglesW x.q.a x.q.b x.q.c x.q.d).a.v / 65536) 1 : Nat)), .int .i32 (pairI (byteN ((anglesW x.q.a x.q.b x.q.c x.q.d).b.v / 65536) 256 : Nat) (byteN ((anglesW x.q.a x.q.b x.q.c x.q.d).b.v / 65536) 1 : Nat)), .int .i32 (pairI (byteN ((anglesW x.q.a x.q.b x.q.c x.q.d).c.v / 65536) 256 : Nat) (byteN ((anglesW x.q.a x.q.b x.q.c x.q.d).c.v / 65536) 1 : Nat))] := by kernel_rfl
  rw [e, hF, n2_back hr.1, n2_back hr.2.1, n2_back hr.2.2, n4_back, n4_back, n4_back, n4_back, pair_back (ha _), pair_back (ha _), pair_back (ha _)]
  rfl
theorem get_ok (x : St) (hr : x.right) {fl : Int} (h : 0 ≤ fl ∧ fl ≤ 7) (v : Value) (w : World) (hw : FTab w) (hv : Sl w v (u8s (x.frame fl))) :
    Calls Tryz.prog 15 #[v] w fun e w' => e = .returned (.tuple #[x.rep fl, .int .i64 0]) ∧ Chg w w' [] := by
  have hl := frame_len x fl
  have hlt := frame_lt x h
  obtain ⟨g1, g2, g3⟩ := gview hl
  have hsum : ObOk Tryz.prog (gsumO (xI (x.frame fl)) false) := by
    have h1 := t_sneq 9 (bstr (rSeal (front (xI (x.frame fl)) 30))) (bstr (front (xI (x.frame fl)) 32))
    have e3 := bstr_eq (l := sealN ((x.frame fl).take 30)) (m := x.frame fl) (sealN_lt fun y hy => hlt y (List.mem_of_mem_take hy)) hlt
    have e4 : sealN ((x.frame fl).take 30) = x.frame fl := rfl
    rw [e4, decide_eq_true rfl] at e3
    rw [g3, g2, rSeal_nat, e4, e3] at h1
    unfold gsumO
    rw [g3, g2, rSeal_nat, e4]
    exact h1
  have t0 : xI (x.frame fl) 0 = 1 := rfl
  have t1 : xI (x.frame fl) 1 = (((fl + (bif lockB x.q.a x.q.b x.q.c x.q.d then 8 else 0)).toNat : Nat) : Int) := rfl
  have hobs : ∀ ob ∈ ([.test (.bin .gtr 5) [.int .u8 (xI (x.frame fl) 1), .int .u8 15] (.bool false), .test (.bin .neq 5) [.int .u8 (xI (x.frame fl) 0), .int .u8 1] (.bool false), gsumO (xI (x.frame fl)) false] : List Ob), ObOkK Tryz.prog FTab ob := by
    refine obsKC (obK ?_) (obsKC (obK ?_) (obsKC (obK hsum) obsK0))
    · have := t_gtr 5 .u8 (xI (x.frame fl) 1) 15
      rw [show decide (15 < xI (x.frame fl) 1) = false by rw [t1]; cases lockB x.q.a x.q.b x.q.c x.q.d <;> simp <;> omega] at this
      exact this
    · have := t_neq 5 .u8 (xI (x.frame fl) 0) 1
      rw [show (xI (x.frame fl) 0 != 1) = false by rw [t0]; rfl] at this
      exact this
  have hone : ∀ u ∈ ([v] : List Value), u.oneCell' = true := fun u hu => by
    simp at hu
    subst hu
    obtain ⟨A, c, rfl, _⟩ := hv
    rfl
  have hconc : concL (E0 (ρS (vb (xI (x.frame fl)) 32) [v])) [.vw 1000000 0 32] = [v] := by
    obtain ⟨A, c, rfl, hc, hA⟩ := hv
    obtain ⟨b, o, rfl, _⟩ := hA (by rw [u8s_length]; omega)
    have e : concL (E0 (ρS (vb (xI (x.frame fl)) 32) [.slice (some ⟨b, o, none⟩) (u8s (x.frame fl)).length c])) [.vw 1000000 0 32] = [.slice (some ⟨b, o + 0, none⟩) 32 (c - 0)] := rfl
    rw [e, u8s_length, hl]
    rfl
  refine (seenF_calls gtab (get_run (xI (x.frame fl))) (by rw [g1]; exact good_u8s hlt) hobs w hw [v] (fun i cs hi => ?_) hone hconc).mono ?_
  · cases i with
    | succ i => simp at hi
    | zero =>
      simp at hi
      subst hi
      exact ⟨v, rfl, by rw [gconc hl]; exact hv⟩
  · rintro e w' ⟨⟨us, ha, rfl⟩, hc⟩
    match us, ha with
    | [y, z], ha =>
      obtain ⟨rfl, rfl, _⟩ := ha
      rw [get_rep x hr h]
      exact ⟨rfl, hc⟩
end Go.Proofs.YtihgijhjhmjolaaGreatDoor.Xi

/- The examples of layer 37. -/
namespace Go.Proofs.YtihgijhjhmjolaaGreatDoor
open Go.RowKit Go.Deep Xi
set_option linter.unusedVariables false
def q1 : Q4 := ⟨kW 1073741824, kW 0, kW 0, kW 0⟩
def st0 : St := ⟨q1, 0, 0, 0⟩
def z20 : List Nat := List.replicate 20 0
theorem st0_val : st0.val = .agg #[.int .i32 1073741824, .int .i32 0, .int .i32 0, .int .i32 0, .int .i64 0, .int .i64 0, .int .i64 0] := by
  unfold St.val st0 stV q1
  rw [show (kW 1073741824).v = 1073741824 by decide +kernel, show (kW 0).v = 0 by decide +kernel]
theorem st0_right : st0.right := by unfold St.right st0 in16; simp
theorem st0_i64 : st0.i64 := by unfold St.i64 st0; simp
theorem z20_sum : sumOk z20 18 = false := by decide +kernel
theorem st0_next : st0.next z20 = ⟨q1, 1, 1, 0⟩ := by unfold St.next; rw [z20_sum]; rfl
theorem z20_flags : flN z20 = 1 := by unfold flN; rw [z20_sum]; rfl
theorem q1_lock : lockB q1.a q1.b q1.c q1.d = false := by decide +kernel
set_option maxRecDepth 100000 in
theorem reset_calls (w : World) : Calls Tryz.prog 14 #[] w fun e w' => e = .returned (.agg #[.int .i32 1073741824, .int .i32 0, .int .i32 0, .int .i32 0, .int .i64 0, .int .i64 0, .int .i64 0]) ∧ Chg w w' [] := by
  have h : runP (cxR [] [] []) (tabOf []) 200 14 [] [] = some (.agg #[.int .i32 1073741824, .int .i32 0, .int .i32 0, .int .i32 0, .int .i64 0, .int .i64 0, .int .i64 0], []) := by kernel_rfl
  exact cxR_calls _ h (fun v hv => by cases hv) obs0 w
theorem mk20 (w : World) : (Instr.makeSlice 26 (.int .i64 20) (.int .i64 20)).run Tryz.prog w = .ok (.slice (some ⟨w.heap.size, 0, none⟩) 20 20) (w.alloc (.cells #[.int .u8 0, .int .u8 0, .int .u8 0, .int .u8 0, .int .u8 0, .int .u8 0, .int .u8 0, .int .u8 0, .int .u8 0, .int .u8 0, .int .u8 0, .int .u8 0, .int .u8 0, .int .u8 0, .int .u8 0, .int .u8 0, .int .u8 0, .int .u8 0, .int .u8 0, .int .u8 0] 5)) := by kernel_rfl
theorem sl20 (w : World) : Sl (w.alloc (.cells #[.int .u8 0, .int .u8 0, .int .u8 0, .int .u8 0, .int .u8 0, .int .u8 0, .int .u8 0, .int .u8 0, .int .u8 0, .int .u8 0, .int .u8 0, .int .u8 0, .int .u8 0, .int .u8 0, .int .u8 0, .int .u8 0, .int .u8 0, .int .u8 0, .int .u8 0, .int .u8 0] 5)) (.slice (some ⟨w.heap.size, 0, none⟩) 20 20) (u8s z20) :=
  Sl.blk' (Blk.new w 5 (u8s z20)) rfl (Nat.le_refl _)
theorem feed0 (W : World) (g : Nat) (hs : Sl W (.slice (some ⟨g, 0, none⟩) 20 20) (u8s z20)) (ht : FTab W) :
    Calls Tryz.prog 10 #[.agg #[.int .i32 1073741824, .int .i32 0, .int .i32 0, .int .i32 0, .int .i64 0, .int .i64 0, .int .i64 0], .slice (some ⟨g, 0, none⟩) 20 20] W fun e w' => ∃ sv, e = .returned (.tuple #[.agg #[.int .i32 1073741824, .int .i32 0, .int .i32 0, .int .i32 0, .int .i64 1, .int .i64 1, .int .i64 0], sv, .int .i64 0]) ∧ Sl w' sv (u8s ((st0.next z20).frame 1)) ∧ Chg W w' [] := by
  have h := pfeed_ok st0_right (xs := z20) rfl (fun y hy => by rw [List.eq_of_mem_replicate hy]; decide) g 0 20 W ht hs
  rw [st0_val] at h
  refine h.mono ?_
  rintro e w' ⟨⟨sv, rfl, hsv⟩, hc⟩
  rw [z20_flags] at hsv
  refine ⟨sv, ?_, hsv, hc⟩
  rw [st0_next]
  unfold St.val stV q1
  rw [show (kW 1073741824).v = 1073741824 by decide +kernel, show (kW 0).v = 0 by decide +kernel]
structure GA where
  g : Nat
  p : Nat
  sv : Value
def vA (γ : GA) : Nat → Value
  | 0 => .agg #[.int .i32 1073741824, .int .i32 0, .int .i32 0, .int .i32 0, .int .i64 0, .int .i64 0, .int .i64 0]
  | 1 => .slice (some ⟨γ.g, 0, none⟩) 20 20
  | 2 => .tuple #[.agg #[.int .i32 1073741824, .int .i32 0, .int .i32 0, .int .i32 0, .int .i64 1, .int .i64 1, .int .i64 0], γ.sv, .int .i64 0]
  | 3 => .tuple #[.agg #[.int .i32 1073741824, .int .i32 0, .int .i32 0, .int .i32 0, .int .i64 1, .int .i64 1, .int .i64 0], γ.sv, .int .i64 0]
  | 4 => .agg #[.int .i32 1073741824, .int .i32 0, .int .i32 0, .int .i32 0, .int .i64 1, .int .i64 1, .int .i64 0]
  | 5 => γ.sv
  | 6 => .int .i64 0
  | 7 => .pointer (some ⟨γ.p, 0, none⟩)
  | 9 => γ.sv
  | 10 => .int .i64 0
  | _ => undef
structure WA (w0 : World) (γ : GA) (L : Nat → Bool) (w : World) : Prop where
  chg : Chg w0 w []
  sl : L 1 = true → L 2 = false → Sl w (.slice (some ⟨γ.g, 0, none⟩) 20 20) (u8s z20)
  ans : L 2 = true → Sl w γ.sv (u8s ((st0.next z20).frame 1))
  new : L 7 = true → w0.heap.size ≤ γ.p ∧ Blk w γ.p 25 (bif L 8 then [.int .i32 1073741824, .int .i32 0, .int .i32 0, .int .i32 0, .int .i64 1, .int .i64 1, .int .i64 0] else [.int .i32 0, .int .i32 0, .int .i32 0, .int .i32 0, .int .i64 0, .int .i64 0, .int .i64 0])
theorem WA.ext {w0 : World} {γ : GA} {L L' : Nat → Bool} {w : World} (h : WA w0 γ L w) (e1 : L 1 = L' 1) (e2 : L 2 = L' 2) (e7 : L 7 = L' 7) (e8 : L 8 = L' 8) : WA w0 γ L' w :=
  ⟨h.chg, by rw [← e1, ← e2]; exact h.sl, by rw [← e2]; exact h.ans, by rw [← e7, ← e8]; exact h.new⟩
/-- What changes nothing that was there. -/
theorem WA.keep {w0 : World} {γ : GA} {L : Nat → Bool} {w w' : World} (h : WA w0 γ L w) (hc : Chg w w' []) : WA w0 γ L w' :=
  ⟨h.chg.trans hc (D := []) (by simp), fun a b => (h.sl a b).keep hc, fun a => (h.ans a).keep hc, fun a => ⟨(h.new a).1, (h.new a).2.chg hc (by simp)⟩⟩
set_option maxRecDepth 100000 in
set_option maxHeartbeats 8000000 in
theorem awake37_calls (w : World) (hw : FTab w) : Calls Tryz.prog 9 #[] w fun e w' => e = .returned (.bool true) ∧ Chg w w' [] := by
  have HW := hide hw
  clear hw
  have hmk := mk20
  have hmix : Tryz.prog.follows .mixedOrders = true := by kernel_rfl
  go_enter Tryz.func9, Tryz.ntmps9
  go_upto_region 1 with (fail)
  refine wp_regionG hmix _ _ vA (WA w) ⟨0, 0, undef⟩ (by kernel_rfl) (by kernel_rfl) (by kernel_rfl) ?step ?start ?fin ?ext
  case start => exact ⟨(Chg.refl w []).drew, (fun h _ => by cases h), (fun h => by cases h), (fun h => by cases h)⟩
  case ext => exact fun γ L L' w' he h => h.ext (he 1 (by decide)) (he 2 (by decide)) (he 7 (by decide)) (he 8 (by decide))
  case step =>
    intro i o ho L a w1 γ hdn htm hW hL hpre K Q hK
    match i, ho with
    | 0, ho =>
      injection ho with ho
      subst ho
      clear htm
      refine call_now (f := 14) (args := #[]) ?_ (reset_calls w1) ?_
      · go_simp
      · rintro e w2 ⟨rfl, hc⟩
        exact ⟨_, rfl, hK γ w2 (fun _ _ => rfl) ((hW.keep hc).ext (by simp) (by simp) (by simp) (by simp))⟩
    | 1, ho =>
      injection ho with ho
      subst ho
      clear htm
      have l2 : L 2 = false := by
        cases h : L 2 with
        | false => rfl
        | true =>
          have this : L 1 = true := hdn 2 _ rfl h ⟨1, .data⟩ (by simp) rfl
          rw [hL] at this
          cases this
      refine val_now (v := vA ⟨w1.heap.size, γ.p, γ.sv⟩ 1) (w' := w1.alloc (.cells (u8s z20).toArray 5)) ?_ (hK ⟨w1.heap.size, γ.p, γ.sv⟩ _ (fun j hj => ?_) ?_)
      · go_simp
        exact ⟨rfl, rfl⟩
      · match j, hj with
        | 0, _ => rfl
        | 1, hj => rw [hL] at hj; cases hj
        | 2, _ => rfl
        | 3, _ => rfl
        | 4, _ => rfl
        | 5, _ => rfl
        | 6, _ => rfl
        | 7, _ => rfl
        | 8, _ => rfl
        | 9, _ => rfl
        | 10, _ => rfl
        | _ + 11, _ => rfl
      · have hk := hW.keep ((Chg.refl w1 []).alloc (.cells (u8s z20).toArray 5))
        exact ⟨hk.chg, fun _ _ => sl20 w1, fun h => hk.ans (by simpa using h), fun h => by simpa using hk.new (by simpa using h)⟩
    | 2, ho =>
      injection ho with ho
      subst ho
      have l0 := hpre ⟨0, .data⟩ (by simp) rfl
      have s0 := slot_at htm (t := 10) (i := 0) (by kernel_rfl) (by kernel_rfl) l0
      simp only [vA] at s0
      have l1 := hpre ⟨1, .data⟩ (by simp) rfl
      have s1 := slot_at htm (t := 11) (i := 1) (by kernel_rfl) (by kernel_rfl) l1
      simp only [vA] at s1
      clear htm
      have hsl := hW.sl l1 hL
      refine call_now (f := 10) (args := #[.agg #[.int .i32 1073741824, .int .i32 0, .int .i32 0, .int .i32 0, .int .i64 0, .int .i64 0, .int .i64 0], .slice (some ⟨γ.g, 0, none⟩) 20 20]) ?_ (feed0 w1 γ.g hsl (HW.out.chg hW.chg (by simp))) ?_
      · go_simp
      · rintro e w2 ⟨sv, rfl, hs2, hc⟩
        refine ⟨_, rfl, hK ⟨γ.g, γ.p, sv⟩ w2 (fun j hj => ?_) ?_⟩
        · have n3 : L 3 = false := by
            cases h : L 3 with
            | false => rfl
            | true => have this : L 2 = true := hdn 3 _ rfl h ⟨2, .data⟩ (by simp) rfl; rw [hL] at this; cases this
          have n5 : L 5 = false := by
            cases h : L 5 with
            | false => rfl
            | true => have this : L 3 = true := hdn 5 _ rfl h ⟨3, .data⟩ (by simp) rfl; rw [n3] at this; cases this
          have n9 : L 9 = false := by
            cases h : L 9 with
            | false => rfl
            | true => have this : L 5 = true := hdn 9 _ rfl h ⟨5, .data⟩ (by simp) rfl; rw [n5] at this; cases this
          match j, hj with
          | 0, _ => rfl
          | 1, _ => rfl
          | 2, hj => rw [hL] at hj; cases hj
          | 3, hj => rw [n3] at hj; cases hj
          | 4, _ => rfl
          | 5, hj => rw [n5] at hj; cases hj
          | 6, _ => rfl
          | 7, _ => rfl
          | 8, _ => rfl
          | 9, hj => rw [n9] at hj; cases hj
          | 10, _ => rfl
          | _ + 11, _ => rfl
        · have hk := hW.keep hc
          exact ⟨hk.chg, fun _ h => by simp at h, fun _ => hs2, fun h => by simpa using hk.new (by simpa using h)⟩
    | 3, ho =>
      injection ho with ho
      subst ho
      have l2 := hpre ⟨2, .data⟩ (by simp) rfl
      have s2 := slot_at htm (t := 12) (i := 2) (by kernel_rfl) (by kernel_rfl) l2
      simp only [vA] at s2
      clear htm
      refine val_now (v := vA γ 3) (w' := w1) ?_ (hK γ w1 (fun _ _ => rfl) (hW.ext (by simp) (by simp) (by simp) (by simp)))
      go_simp
      rfl
    | 4, ho =>
      injection ho with ho
      subst ho
      have l3 := hpre ⟨3, .data⟩ (by simp) rfl
      have s3 := slot_at htm (t := 9) (i := 3) (by kernel_rfl) (by kernel_rfl) l3
      simp only [vA] at s3
      clear htm
      refine val_now (v := vA γ 4) (w' := w1) ?_ (hK γ w1 (fun _ _ => rfl) (hW.ext (by simp) (by simp) (by simp) (by simp)))
      go_simp
      rfl
    | 5, ho =>
      injection ho with ho
      subst ho
      have l3 := hpre ⟨3, .data⟩ (by simp) rfl
      have s3 := slot_at htm (t := 9) (i := 3) (by kernel_rfl) (by kernel_rfl) l3
      simp only [vA] at s3
      clear htm
      refine val_now (v := vA γ 5) (w' := w1) ?_ (hK γ w1 (fun _ _ => rfl) (hW.ext (by simp) (by simp) (by simp) (by simp)))
      go_simp
      rfl
    | 6, ho =>
      injection ho with ho
      subst ho
      have l3 := hpre ⟨3, .data⟩ (by simp) rfl
      have s3 := slot_at htm (t := 9) (i := 3) (by kernel_rfl) (by kernel_rfl) l3
      simp only [vA] at s3
      clear htm
      refine val_now (v := vA γ 6) (w' := w1) ?_ (hK γ w1 (fun _ _ => rfl) (hW.ext (by simp) (by simp) (by simp) (by simp)))
      go_simp
      rfl
    | 7, ho =>
      injection ho with ho
      subst ho
      clear htm
      have l8 : L 8 = false := by
        cases h : L 8 with
        | false => rfl
        | true =>
          have this : L 7 = true := hdn 8 _ rfl h ⟨7, .data⟩ (by simp) rfl
          rw [hL] at this
          cases this
      refine val_now (v := vA ⟨γ.g, w1.heap.size, γ.sv⟩ 7) (w' := w1.alloc (.cells #[.int .i32 0, .int .i32 0, .int .i32 0, .int .i32 0, .int .i64 0, .int .i64 0, .int .i64 0] 25)) ?_ (hK ⟨γ.g, w1.heap.size, γ.sv⟩ _ (fun j hj => ?_) ?_)
      · go_simp
        rfl
      · match j, hj with
        | 0, _ => rfl
        | 1, _ => rfl
        | 2, _ => rfl
        | 3, _ => rfl
        | 4, _ => rfl
        | 5, _ => rfl
        | 6, _ => rfl
        | 7, hj => rw [hL] at hj; cases hj
        | 8, _ => rfl
        | 9, _ => rfl
        | 10, _ => rfl
        | _ + 11, _ => rfl
      · have hk := hW.keep ((Chg.refl w1 []).alloc (.cells #[.int .i32 0, .int .i32 0, .int .i32 0, .int .i32 0, .int .i64 0, .int .i64 0, .int .i64 0] 25))
        refine ⟨hk.chg, fun h1 h2 => hk.sl (by simpa using h1) (by simpa using h2), fun h => hk.ans (by simpa using h), fun _ => ⟨hW.chg.size, ?_⟩⟩
        simp only [l8]
        exact Blk.new w1 _ _
    | 8, ho =>
      injection ho with ho
      subst ho
      have l7 := hpre ⟨7, .data⟩ (by simp) rfl
      have s7 := slot_at htm (t := 1) (i := 7) (by kernel_rfl) (by kernel_rfl) l7
      simp only [vA] at s7
      have l4 := hpre ⟨4, .data⟩ (by simp) rfl
      have s4 := slot_at htm (t := 13) (i := 4) (by kernel_rfl) (by kernel_rfl) l4
      simp only [vA] at s4
      clear htm
      have l3 : L 3 = true := hdn 4 _ rfl l4 ⟨3, .data⟩ (by simp) rfl
      have l2 : L 2 = true := hdn 3 _ rfl l3 ⟨2, .data⟩ (by simp) rfl
      obtain ⟨hp, hb⟩ := hW.new l7
      rw [hL] at hb
      simp only [cond_false] at hb
      have c0 := hb.cell' (i := 0) rfl
      have f0 := hb.frozen 0
      have c1 := hb.cell' (i := 1) rfl
      have f1 := hb.frozen 1
      have c2 := hb.cell' (i := 2) rfl
      have f2 := hb.frozen 2
      have c3 := hb.cell' (i := 3) rfl
      have f3 := hb.frozen 3
      have c4 := hb.cell' (i := 4) rfl
      have f4 := hb.frozen 4
      have c5 := hb.cell' (i := 5) rfl
      have f5 := hb.frozen 5
      have c6 := hb.cell' (i := 6) rfl
      have f6 := hb.frozen 6
      refine skip_now (w' := put7 w1 γ.p (.int .i32 1073741824) (.int .i32 0) (.int .i32 0) (.int .i32 0) (.int .i64 1) (.int .i64 1) (.int .i64 0)) ?_ (hK γ _ (fun _ _ => rfl) ?_)
      · go_simp
        rfl
      · have hc7 := put7_chg w1 γ.p (.int .i32 1073741824) (.int .i32 0) (.int .i32 0) (.int .i32 0) (.int .i64 1) (.int .i64 1) (.int .i64 0)
        have hans := hW.ans l2
        refine ⟨hW.chg.trans hc7 (D := []) (fun k hk => by simp at hk; omega), fun _ h => ?_, fun _ => hans.chg0 hc7 (fun h0 => not_state hb hans h0), fun _ => ⟨hp, ?_⟩⟩
        · simp [l2] at h
        · simp only [if_true, cond_true]
          exact put7_blk hb (.int .i32 1073741824) (.int .i32 0) (.int .i32 0) (.int .i32 0) (.int .i64 1) (.int .i64 1) (.int .i64 0)
    | 9, ho =>
      injection ho with ho
      subst ho
      have l5 := hpre ⟨5, .data⟩ (by simp) rfl
      have s5 := slot_at htm (t := 14) (i := 5) (by kernel_rfl) (by kernel_rfl) l5
      simp only [vA] at s5
      clear htm
      refine val_now (v := vA γ 9) (w' := w1) ?_ (hK γ w1 (fun _ _ => rfl) (hW.ext (by simp) (by simp) (by simp) (by simp)))
      go_simp
      rfl
    | 10, ho =>
      injection ho with ho
      subst ho
      have l6 := hpre ⟨6, .data⟩ (by simp) rfl
      have s6 := slot_at htm (t := 15) (i := 6) (by kernel_rfl) (by kernel_rfl) l6
      simp only [vA] at s6
      clear htm
      refine val_now (v := vA γ 10) (w' := w1) ?_ (hK γ w1 (fun _ _ => rfl) (hW.ext (by simp) (by simp) (by simp) (by simp)))
      go_simp
      rfl
    | _ + 11, ho => cases ho
  case fin =>
    intro γ w1 hW
    generalize hF : finG _ _ vA _ γ = F
    have hF2 : F = #[.bool false, .pointer (some ⟨γ.p, 0, none⟩), γ.sv, .int .i64 0, undef, undef, undef, undef, undef, .tuple #[.agg #[.int .i32 1073741824, .int .i32 0, .int .i32 0, .int .i32 0, .int .i64 1, .int .i64 1, .int .i64 0], γ.sv, .int .i64 0], .agg #[.int .i32 1073741824, .int .i32 0, .int .i32 0, .int .i32 0, .int .i64 0, .int .i64 0, .int .i64 0], .slice (some ⟨γ.g, 0, none⟩) 20 20, .tuple #[.agg #[.int .i32 1073741824, .int .i32 0, .int .i32 0, .int .i32 0, .int .i64 1, .int .i64 1, .int .i64 0], γ.sv, .int .i64 0], .agg #[.int .i32 1073741824, .int .i32 0, .int .i32 0, .int .i32 0, .int .i64 1, .int .i64 1, .int .i64 0], γ.sv, .int .i64 0, undef, undef, undef, undef, undef, undef, undef, undef, undef, undef, undef, undef, undef, undef, undef, undef, undef, undef, undef, undef, undef, undef, undef, undef, undef, undef, undef, undef, undef, undef, undef, undef, undef, undef, undef, undef, undef, undef, undef, undef, undef, undef, undef] := hF.symm.trans (by kernel_rfl)
    clear hF
    subst hF2
    have hans := hW.ans rfl
    obtain ⟨hp, hb⟩ := hW.new rfl
    simp only [cond_true] at hb
    have hchg := hW.chg
    have hw1 : FTab w1 := HW.out.chg hchg (by simp)
    clear hW
    obtain ⟨bg, bp, bs⟩ := γ
    have hans := hide hans
    have hget := hide (get_ok (st0.next z20) (by rw [st0_next]; unfold St.right in16; simp) (fl := 1) (by decide) bs w1 hw1 hans.out)
    have hb := hide hb
    have hchg := hide hchg
    have hw1 := hide hw1
    obtain ⟨a, b, c, hr⟩ : ∃ a b c, (st0.next z20).rep 1 = .agg #[.int .i64 1, .int .i64 1, .int .i64 1, .int .i64 0, .int .i32 1073741824, .int .i32 0, .int .i32 0, .int .i32 0, .int .i32 a, .int .i32 b, .int .i32 c] := ⟨_, _, _, by
      unfold St.rep
      rw [st0_next, q1_lock]
      unfold q1
      rw [show (kW 1073741824).v = 1073741824 by decide +kernel, show (kW 0).v = 0 by decide +kernel]
      rfl⟩
    rw [hr] at hget
    clear hr
    go_wp2_with fail
    refine hget.out.mono ?_
    rintro e w2 ⟨rfl, hc2⟩
    have hc2 := hide hc2
    clear hget
    go_wp2_with fail
    generalize hw3 : w2.alloc (.cells #[.int .i64 1, .int .i64 1, .int .i64 1, .int .i64 0, .int .i32 1073741824, .int .i32 0, .int .i32 0, .int .i32 0, .int .i32 a, .int .i32 b, .int .i32 c] 38) = w3
    have hc3 : Chg w2 w3 [] := by subst hw3; exact (Chg.refl w2 []).alloc _
    have hr3 : Blk w3 w2.heap.size 38 [.int .i64 1, .int .i64 1, .int .i64 1, .int .i64 0, .int .i32 1073741824, .int .i32 0, .int .i32 0, .int .i32 0, .int .i32 a, .int .i32 b, .int .i32 c] := by subst hw3; exact Blk.new w2 _ _
    clear hw3
    have hc3 := hide hc3
    have hr3 := hide hr3
    refine (reset_calls w3).mono ?_
    rintro e w4 ⟨rfl, hc4⟩
    have hc4 := hide hc4
    have hf := hide (pfeed st0 st0_i64 [] (by simp) (by simp) (.slice none 0 0) w4 (hw1.out.chg ((hc2.out.trans hc3.out (D := []) (by simp)).trans hc4.out (D := []) (by simp)) (by simp)) (nil_sl _))
    rw [st0_val] at hf
    go_wp2_with fail
    refine hf.out.mono ?_
    rintro e w5 ⟨⟨sv, rfl, hsv⟩, hc5⟩
    rw [show feedR st0 [] = (st0, [], 4) by rfl, st0_val]
    have hc5 := hide hc5
    clear hf
    go_wp2_with fail
    generalize hw6 : w5.alloc (.cells #[.int .i32 1073741824, .int .i32 0, .int .i32 0, .int .i32 0, .int .i64 0, .int .i64 0, .int .i64 0] 25) = w6
    have hc6 : Chg w5 w6 [] := by subst hw6; exact (Chg.refl w5 []).alloc _
    clear hw6
    have hc6 := hide hc6
    refine (reset_calls w6).mono ?_
    rintro e w7 ⟨rfl, hc7⟩
    have h37 : Chg w3 w7 [] := ((hc4.out.trans hc5.out (D := []) (by simp)).trans hc6.out (D := []) (by simp)).trans hc7 (D := []) (by simp)
    have h17 : Chg w1 w7 [] := (hc2.out.trans hc3.out (D := []) (by simp)).trans h37 (D := []) (by simp)
    have hend : Chg w w7 [] := hchg.out.trans h17 (D := []) (by simp)
    have hB := hb.out.chg h17 (by simp)
    have hR := hr3.out.chg h37 (by simp)
    have c0 := hB.cell' (i := 0) rfl
    have c1 := hB.cell' (i := 1) rfl
    have c2 := hB.cell' (i := 2) rfl
    have c3 := hB.cell' (i := 3) rfl
    have c4 := hB.cell' (i := 4) rfl
    have c5 := hB.cell' (i := 5) rfl
    have c6 := hB.cell' (i := 6) rfl
    have r0 := hR.cell' (i := 0) rfl
    obtain ⟨A, cp, rfl, hcp, hA⟩ := hsv
    have e1 := eqS 1073741824 0 0 0 1073741824 0 0 0 0 0 0 0 0 0 w7
    have e2 := eqS 1073741824 0 0 0 1073741824 0 0 0 1 1 0 1 1 0 w7
    have hq9 := eqQ9
    simp only [BEq.rfl, Bool.and_self] at e1 e2
    have hend := hide hend
    clear hc4 hc5 hc6 hc7 h37 h17 hB hR hc2 hc3 hchg hb hr3 hans hw1 hA hcp HW
    go_wp2_with fail
    go_ret
    exact ⟨rfl, hend.out⟩
end Go.Proofs.YtihgijhjhmjolaaGreatDoor
