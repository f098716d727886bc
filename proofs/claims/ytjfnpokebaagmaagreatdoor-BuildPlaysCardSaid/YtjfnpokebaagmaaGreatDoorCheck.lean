/- The walks of package code: fields, bounds, Check. -/
import Derived.Test.YtjfnpokebaagmaaGreatDoorCode
namespace Go.Proofs.YtjfnpokebaagmaaGreatDoor
open Go.RowKit Go.Deep
set_option linter.unusedVariables false

def lo (l : UInt8) : Int := if l = 115 then -32768 else 0
def hi (l : UInt8) : Int := if l = 45 then 0 else if l = 115 then 32767 else if l = 117 then 65535 else 31
def er (l : UInt8) : Int := if l = 45 then 3 else 6
/-- A field's error. -/
def fe (l : UInt8) (n : Int) : Int := if n < lo l ∨ hi l < n then er l else 0
theorem er_ne (l : UInt8) : er l ≠ 0 := by unfold er; split <;> omega
def chk4 (a b c d : UInt8) (x y z u : Int) : Int := if fe a x ≠ 0 then fe a x else if fe b y ≠ 0 then fe b y else if fe c z ≠ 0 then fe c z else fe d u
def chk (op x y z u : Int) : Int := match shp op with
  | [a, b, c, d] => chk4 a b c d x y z u
  | _ => 2

set_option maxHeartbeats 400000 in
theorem bounds_any (l : UInt8) (w : World) :
    Calls Tryz.prog 59 #[.int .u8 (l.toNat : Int)] w fun e w' => e = .returned (.tuple #[.int .i64 (lo l), .int .i64 (hi l), .int .i64 (er l)]) ∧ w = w' := by
  have key : ∀ m : UInt8, l = m ↔ ((l.toNat : Int) = (m.toNat : Int)) := fun m => by rw [← UInt8.toNat_inj]; omega
  by_cases h1 : l = 45
  · subst h1
    go_enter Tryz.func59, Tryz.ntmps59
    go_wp2
    refine bodyPost_ret (results_tmp3 rfl _ _ _) rfl ?_
    exact ⟨rfl, rfl⟩
  · by_cases h2 : l = 115
    · subst h2
      go_enter Tryz.func59, Tryz.ntmps59
      go_wp2
      refine bodyPost_ret (results_tmp3 rfl _ _ _) rfl ?_
      exact ⟨rfl, rfl⟩
    · by_cases h3 : l = 117
      · subst h3
        go_enter Tryz.func59, Tryz.ntmps59
        go_wp2
        refine bodyPost_ret (results_tmp3 rfl _ _ _) rfl ?_
        exact ⟨rfl, rfl⟩
      · have e1 : lo l = 0 := by unfold lo; rw [if_neg h2]
        have e2 : hi l = 31 := by unfold hi; rw [if_neg h1, if_neg h2, if_neg h3]
        have e3 : er l = 6 := by unfold er; rw [if_neg h1]
        rw [e1, e2, e3]
        have k1 : ((l.toNat : Int) == 45) = false := by rw [beq_eq_false_iff_ne]; intro h; exact h1 ((key 45).2 h)
        have k2 : ((l.toNat : Int) == 115) = false := by rw [beq_eq_false_iff_ne]; intro h; exact h2 ((key 115).2 h)
        have k3 : ((l.toNat : Int) == 117) = false := by rw [beq_eq_false_iff_ne]; intro h; exact h3 ((key 117).2 h)
        clear h1 h2 h3 key e1 e2 e3
        generalize (l.toNat : Int) = n at *
        go_enter Tryz.func59, Tryz.ntmps59
        go_wp2
        refine bodyPost_ret (results_tmp3 rfl _ _ _) rfl ?_
        exact ⟨rfl, rfl⟩

/-- The cells of the table of fields. -/
def fcells : List Value := [.func (.func 71) #[] #[], .int .u64 21, .int .u64 5, .func (.func 72) #[] #[], .int .u64 16, .int .u64 5,
  .func (.func 73) #[] #[], .int .u64 11, .int .u64 5, .func (.func 74) #[] #[], .int .u64 0, .int .u64 16]

set_option maxHeartbeats 400000 in
theorem fields_any (a b c d : UInt8) (w : World) :
    Calls Tryz.prog 55 #[.string ⟨#[a, b, c, d]⟩] w fun e w' => e = .returned (.slice (some ⟨w.heap.size, 0, none⟩) 4 4) ∧ w.alloc (.cells fcells.toArray 112) = w' := by
  go_enter Tryz.func55, Tryz.ntmps55
  go_wp2
  go_ret
  exact ⟨rfl, rfl⟩

set_option maxHeartbeats 400000 in
theorem fld1 (ib : Nat) (w : World) : Calls Tryz.prog 71 #[.pointer (some ⟨ib, 0, none⟩)] w fun e w' => e = .returned (.pointer (some ⟨ib, 1, none⟩)) ∧ w = w' := by
  go_enter Tryz.func71, Tryz.ntmps71
  go_wp2
  go_ret
  exact ⟨rfl, rfl⟩
set_option maxHeartbeats 400000 in
theorem fld2 (ib : Nat) (w : World) : Calls Tryz.prog 72 #[.pointer (some ⟨ib, 0, none⟩)] w fun e w' => e = .returned (.pointer (some ⟨ib, 2, none⟩)) ∧ w = w' := by
  go_enter Tryz.func72, Tryz.ntmps72
  go_wp2
  go_ret
  exact ⟨rfl, rfl⟩
set_option maxHeartbeats 400000 in
theorem fld3 (ib : Nat) (w : World) : Calls Tryz.prog 73 #[.pointer (some ⟨ib, 0, none⟩)] w fun e w' => e = .returned (.pointer (some ⟨ib, 3, none⟩)) ∧ w = w' := by
  go_enter Tryz.func73, Tryz.ntmps73
  go_wp2
  go_ret
  exact ⟨rfl, rfl⟩
set_option maxHeartbeats 400000 in
theorem fld4 (ib : Nat) (w : World) : Calls Tryz.prog 74 #[.pointer (some ⟨ib, 0, none⟩)] w fun e w' => e = .returned (.pointer (some ⟨ib, 4, none⟩)) ∧ w = w' := by
  go_enter Tryz.func74, Tryz.ntmps74
  go_wp2
  go_ret
  exact ⟨rfl, rfl⟩
abbrev insV (op x y z u : Int) : Value := .agg #[.int .i64 op, .int .i64 x, .int .i64 y, .int .i64 z, .int .i64 u]
abbrev insC (op x y z u : Int) : List Value := [.int .i64 op, .int .i64 x, .int .i64 y, .int .i64 z, .int .i64 u]

set_option maxHeartbeats 400000 in
theorem check_none (op x y z u : Int) (w : World) (h : shp op = []) :
    Calls Tryz.prog 40 #[insV op x y z u] w fun e w' => e = .returned (.int .i64 2) ∧ Chg w w' [] := by
  go_enter Tryz.func40, Tryz.ntmps40
  go_wp2_with (go_at_call 56; refine (shape_any op _).mono ?_; rintro e w1 ⟨rfl, rfl⟩; rw [h])
  go_ret
  exact ⟨rfl, (Chg.refl _ _).alloc _⟩

/-- What holds at the head of a round of Check. -/
def ChkRel (w : World) (a b c d : UInt8) (x y z u : Int) (ib q : Nat) (op : Int) (v : Value) (wr : World) : Prop :=
  ∃ k : Nat, k ≤ 4 ∧ v = .int .i64 (k : Int) ∧ (0 < k → fe a x = 0) ∧ (1 < k → fe b y = 0) ∧ (2 < k → fe c z = 0) ∧ (3 < k → fe d u = 0) ∧
    Blk wr ib 25 (insC op x y z u) ∧ Blk wr q 112 fcells ∧ Chg w wr []

set_option maxHeartbeats 2000000 in
theorem check_some (op x y z u : Int) (a b c d : UInt8) (w : World) (h : shp op = [a, b, c, d]) :
    Calls Tryz.prog 40 #[insV op x y z u] w fun e w' => e = .returned (.int .i64 (chk4 a b c d x y z u)) ∧ Chg w w' [] := by
  have hib : Blk (w.alloc (.cells (insC op x y z u).toArray 25)) w.heap.size 25 (insC op x y z u) := Blk.new _ _ _
  have hc0 : Chg w (w.alloc (.cells (insC op x y z u).toArray 25)) [] := (Chg.refl _ _).alloc _
  generalize hibn : w.heap.size = ib at hib
  have HI := hide hibn
  clear hibn
  go_enter Tryz.func40, Tryz.ntmps40
  go_wp2_with fail
  rw [HI.out]
  generalize w.alloc (.cells #[.int .i64 op, .int .i64 x, .int .i64 y, .int .i64 z, .int .i64 u] 25) = w0 at *
  have HB := hide hib
  have HC := hide hc0
  clear hib hc0
  refine (shape_any op _).mono ?_
  rintro e w1 ⟨rfl, rfl⟩
  rw [h]
  go_wp2_with fail
  refine (fields_any a b c d _).mono ?_
  rintro e w1 ⟨rfl, rfl⟩
  have hstart : ChkRel w a b c d x y z u ib w0.heap.size op (.int .i64 (0 : Nat)) (w0.alloc (.cells fcells.toArray 112)) :=
    ⟨0, by omega, rfl, by omega, by omega, by omega, by omega, HB.out.alloc _, Blk.new _ _ _, HC.out.alloc _⟩
  generalize w0.heap.size = q at *
  generalize w0.alloc (.cells fcells.toArray 112) = w1 at *
  clear HB HC h
  go_wp2_with fail
  go_loopw [18] (fun v wr => ChkRel w a b c d x y z u ib q op v wr) (fun i _ => 4 - (intOf i).toNat)
  case atStart => exact hstart
  case round =>
    obtain ⟨k, hk, rfl, h0, h1, h2, h3, hbi, hbq, hc⟩ := hrel
    have kk : k = 0 ∨ k = 1 ∨ k = 2 ∨ k = 3 ∨ k = 4 := by omega
    have cop := hbi.cell' (i := 0) rfl
    have cx := hbi.cell' (i := 1) rfl
    have cy := hbi.cell' (i := 2) rfl
    have cz := hbi.cell' (i := 3) rfl
    have cu := hbi.cell' (i := 4) rfl
    have hbil := hbi.lt
    have hbql := hbq.lt
    have hbi0 := hide hbi
    have hbq0 := hide hbq
    rcases kk with rfl | rfl | rfl | rfl | rfl
    · have q0 := hbq.cell' (i := 0) rfl
      have q1 := hbq.cell' (i := 1) rfl
      have q2 := hbq.cell' (i := 2) rfl
      clear hbi hbq
      by_cases g : x < lo a
      · have HF : Hid (chk4 a b c d x y z u = er a) := by
          have hf : fe a x = er a := by unfold fe; rw [if_pos (.inl g)]
          have hn := er_ne a
          show chk4 a b c d x y z u = er a
          unfold chk4
          simp [hf, hn]
        clear h0 h1 h2 h3
        go_wp2_with (first | (go_at_call 59; refine (bounds_any a _).mono ?_; rintro e w2 ⟨rfl, rfl⟩) | (go_at_call 71; refine (fld1 ib _).mono ?_; rintro e w2 ⟨rfl, rfl⟩))
        go_ret
        exact ⟨ret_int HF.out.symm, hc.alloc _⟩
      · by_cases g2 : hi a < x
        · have HF : Hid (chk4 a b c d x y z u = er a) := by
            have hf : fe a x = er a := by unfold fe; rw [if_pos (.inr g2)]
            have hn := er_ne a
            show chk4 a b c d x y z u = er a
            unfold chk4
            simp [hf, hn]
          clear h0 h1 h2 h3
          go_wp2_with (first | (go_at_call 59; refine (bounds_any a _).mono ?_; rintro e w2 ⟨rfl, rfl⟩) | (go_at_call 71; refine (fld1 ib _).mono ?_; rintro e w2 ⟨rfl, rfl⟩))
          go_ret
          exact ⟨ret_int HF.out.symm, hc.alloc _⟩
        · have HF : Hid (fe a x = 0) := by unfold fe; rw [if_neg (by omega)]; exact rfl
          have HR : Hid (∀ wq : World, Chg wr wq [] → ChkRel w a b c d x y z u ib q op (.int .i64 (1 : Nat)) wq) := fun wq hq =>
            ⟨1, by omega, rfl, fun _ => HF.out, by omega, by omega, by omega, (hbi0.out).chg hq (by simp), (hbq0.out).chg hq (by simp), hc.trans hq (by simp)⟩
          clear h0 h1 h2 h3
          go_wp2_with (first | (go_at_call 59; refine (bounds_any a _).mono ?_; rintro e w2 ⟨rfl, rfl⟩) | (go_at_call 71; refine (fld1 ib _).mono ?_; rintro e w2 ⟨rfl, rfl⟩))
          go_roundw
          case rel => exact HR.out _ ((Chg.refl _ _).alloc _)
          case measure => simp [intOf]
    · have q0 := hbq.cell' (i := 3) rfl
      have q1 := hbq.cell' (i := 4) rfl
      have q2 := hbq.cell' (i := 5) rfl
      clear hbi hbq
      by_cases g : y < lo b
      · have HF : Hid (chk4 a b c d x y z u = er b) := by
          have hf : fe b y = er b := by unfold fe; rw [if_pos (.inl g)]
          have hn := er_ne b
          show chk4 a b c d x y z u = er b
          unfold chk4
          simp [hf, hn, h0 (by omega)]
        clear h0 h1 h2 h3
        go_wp2_with (first | (go_at_call 59; refine (bounds_any b _).mono ?_; rintro e w2 ⟨rfl, rfl⟩) | (go_at_call 72; refine (fld2 ib _).mono ?_; rintro e w2 ⟨rfl, rfl⟩))
        go_ret
        exact ⟨ret_int HF.out.symm, hc.alloc _⟩
      · by_cases g2 : hi b < y
        · have HF : Hid (chk4 a b c d x y z u = er b) := by
            have hf : fe b y = er b := by unfold fe; rw [if_pos (.inr g2)]
            have hn := er_ne b
            show chk4 a b c d x y z u = er b
            unfold chk4
            simp [hf, hn, h0 (by omega)]
          clear h0 h1 h2 h3
          go_wp2_with (first | (go_at_call 59; refine (bounds_any b _).mono ?_; rintro e w2 ⟨rfl, rfl⟩) | (go_at_call 72; refine (fld2 ib _).mono ?_; rintro e w2 ⟨rfl, rfl⟩))
          go_ret
          exact ⟨ret_int HF.out.symm, hc.alloc _⟩
        · have HF : Hid (fe b y = 0) := by unfold fe; rw [if_neg (by omega)]; exact rfl
          have HR : Hid (∀ wq : World, Chg wr wq [] → ChkRel w a b c d x y z u ib q op (.int .i64 (2 : Nat)) wq) := fun wq hq =>
            ⟨2, by omega, rfl, fun _ => h0 (by omega), fun _ => HF.out, by omega, by omega, (hbi0.out).chg hq (by simp), (hbq0.out).chg hq (by simp), hc.trans hq (by simp)⟩
          clear h0 h1 h2 h3
          go_wp2_with (first | (go_at_call 59; refine (bounds_any b _).mono ?_; rintro e w2 ⟨rfl, rfl⟩) | (go_at_call 72; refine (fld2 ib _).mono ?_; rintro e w2 ⟨rfl, rfl⟩))
          go_roundw
          case rel => exact HR.out _ ((Chg.refl _ _).alloc _)
          case measure => simp [intOf]
    · have q0 := hbq.cell' (i := 6) rfl
      have q1 := hbq.cell' (i := 7) rfl
      have q2 := hbq.cell' (i := 8) rfl
      clear hbi hbq
      by_cases g : z < lo c
      · have HF : Hid (chk4 a b c d x y z u = er c) := by
          have hf : fe c z = er c := by unfold fe; rw [if_pos (.inl g)]
          have hn := er_ne c
          show chk4 a b c d x y z u = er c
          unfold chk4
          simp [hf, hn, h0 (by omega), h1 (by omega)]
        clear h0 h1 h2 h3
        go_wp2_with (first | (go_at_call 59; refine (bounds_any c _).mono ?_; rintro e w2 ⟨rfl, rfl⟩) | (go_at_call 73; refine (fld3 ib _).mono ?_; rintro e w2 ⟨rfl, rfl⟩))
        go_ret
        exact ⟨ret_int HF.out.symm, hc.alloc _⟩
      · by_cases g2 : hi c < z
        · have HF : Hid (chk4 a b c d x y z u = er c) := by
            have hf : fe c z = er c := by unfold fe; rw [if_pos (.inr g2)]
            have hn := er_ne c
            show chk4 a b c d x y z u = er c
            unfold chk4
            simp [hf, hn, h0 (by omega), h1 (by omega)]
          clear h0 h1 h2 h3
          go_wp2_with (first | (go_at_call 59; refine (bounds_any c _).mono ?_; rintro e w2 ⟨rfl, rfl⟩) | (go_at_call 73; refine (fld3 ib _).mono ?_; rintro e w2 ⟨rfl, rfl⟩))
          go_ret
          exact ⟨ret_int HF.out.symm, hc.alloc _⟩
        · have HF : Hid (fe c z = 0) := by unfold fe; rw [if_neg (by omega)]; exact rfl
          have HR : Hid (∀ wq : World, Chg wr wq [] → ChkRel w a b c d x y z u ib q op (.int .i64 (3 : Nat)) wq) := fun wq hq =>
            ⟨3, by omega, rfl, fun _ => h0 (by omega), fun _ => h1 (by omega), fun _ => HF.out, by omega, (hbi0.out).chg hq (by simp), (hbq0.out).chg hq (by simp), hc.trans hq (by simp)⟩
          clear h0 h1 h2 h3
          go_wp2_with (first | (go_at_call 59; refine (bounds_any c _).mono ?_; rintro e w2 ⟨rfl, rfl⟩) | (go_at_call 73; refine (fld3 ib _).mono ?_; rintro e w2 ⟨rfl, rfl⟩))
          go_roundw
          case rel => exact HR.out _ ((Chg.refl _ _).alloc _)
          case measure => simp [intOf]
    · have q0 := hbq.cell' (i := 9) rfl
      have q1 := hbq.cell' (i := 10) rfl
      have q2 := hbq.cell' (i := 11) rfl
      clear hbi hbq
      by_cases g : u < lo d
      · have HF : Hid (chk4 a b c d x y z u = er d) := by
          have hf : fe d u = er d := by unfold fe; rw [if_pos (.inl g)]
          have hn := er_ne d
          show chk4 a b c d x y z u = er d
          unfold chk4
          simp [hf, h0 (by omega), h1 (by omega), h2 (by omega)]
        clear h0 h1 h2 h3
        go_wp2_with (first | (go_at_call 59; refine (bounds_any d _).mono ?_; rintro e w2 ⟨rfl, rfl⟩) | (go_at_call 74; refine (fld4 ib _).mono ?_; rintro e w2 ⟨rfl, rfl⟩))
        go_ret
        exact ⟨ret_int HF.out.symm, hc.alloc _⟩
      · by_cases g2 : hi d < u
        · have HF : Hid (chk4 a b c d x y z u = er d) := by
            have hf : fe d u = er d := by unfold fe; rw [if_pos (.inr g2)]
            have hn := er_ne d
            show chk4 a b c d x y z u = er d
            unfold chk4
            simp [hf, h0 (by omega), h1 (by omega), h2 (by omega)]
          clear h0 h1 h2 h3
          go_wp2_with (first | (go_at_call 59; refine (bounds_any d _).mono ?_; rintro e w2 ⟨rfl, rfl⟩) | (go_at_call 74; refine (fld4 ib _).mono ?_; rintro e w2 ⟨rfl, rfl⟩))
          go_ret
          exact ⟨ret_int HF.out.symm, hc.alloc _⟩
        · have HF : Hid (fe d u = 0) := by unfold fe; rw [if_neg (by omega)]; exact rfl
          have HR : Hid (∀ wq : World, Chg wr wq [] → ChkRel w a b c d x y z u ib q op (.int .i64 (4 : Nat)) wq) := fun wq hq =>
            ⟨4, by omega, rfl, fun _ => h0 (by omega), fun _ => h1 (by omega), fun _ => h2 (by omega), fun _ => HF.out, (hbi0.out).chg hq (by simp), (hbq0.out).chg hq (by simp), hc.trans hq (by simp)⟩
          clear h0 h1 h2 h3
          go_wp2_with (first | (go_at_call 59; refine (bounds_any d _).mono ?_; rintro e w2 ⟨rfl, rfl⟩) | (go_at_call 74; refine (fld4 ib _).mono ?_; rintro e w2 ⟨rfl, rfl⟩))
          go_roundw
          case rel => exact HR.out _ ((Chg.refl _ _).alloc _)
          case measure => simp [intOf]
    · have HF : Hid (chk4 a b c d x y z u = 0) := by
        show chk4 a b c d x y z u = 0
        unfold chk4
        simp [h0 (by omega), h1 (by omega), h2 (by omega), h3 (by omega)]
      clear h0 h1 h2 h3
      go_wp2
      go_ret
      exact ⟨ret_int HF.out.symm, hc⟩

/-- Check's error, of whatever instruction. -/
theorem check_any (op x y z u : Int) (w : World) :
    Calls Tryz.prog 40 #[insV op x y z u] w fun e w' => e = .returned (.int .i64 (chk op x y z u)) ∧ Chg w w' [] := by
  have hsh : shp op = [] ∨ ∃ a b c d, shp op = [a, b, c, d] := by
    rcases shp_cases op with ⟨_, e⟩ | ⟨_, e⟩ | ⟨_, e⟩ | ⟨_, e⟩ | ⟨_, e⟩ | ⟨_, e⟩ | ⟨_, e⟩ | ⟨_, e⟩ | ⟨_, e⟩ | ⟨_, e⟩
    · exact .inl e
    all_goals exact .inr ⟨_, _, _, _, e⟩
  rcases hsh with h | ⟨a, b, c, d, h⟩
  · have e : chk op x y z u = 2 := by unfold chk; rw [h]
    rw [e]
    exact check_none op x y z u w h
  · have e : chk op x y z u = chk4 a b c d x y z u := by unfold chk; rw [h]
    rw [e]
    exact check_some op x y z u a b c d w h

end Go.Proofs.YtjfnpokebaagmaaGreatDoor
