/- The program's table of names: Resolve. -/
import Derived.Test.YtjfnpokebaagmaaGreatDoorLabE
import Derived.Test.YtjfnpokebaagmaaGreatDoorErrAs
import Derived.BigQuiet
namespace Go.Proofs.YtjfnpokebaagmaaGreatDoor
open Go.RowKit Go.Deep Go.Maps
set_option linter.unusedVariables false
attribute [local go_sem] Oper.semAt_some
def ErT (w : World) : Prop := w.cell? ⟨0, 0, none⟩ = some (.iface 149 (.agg #[.pointer (some ⟨5, 99, none⟩)]))
theorem ErT.chg {w w' : World} {D : List Nat} (h : ErT w) (hc : Chg w w' D) (hD : 0 ∉ D) : ErT w' := hc.cell h hD
def ResP (r : Except Nm (List (Int × Int))) (w : World) (e : Ending) (w' : World) : Prop :=
 Chg w w' [] ∧ ((∃ s, r = .error s ∧ e = .returned (.tuple #[.slice none 0 0, strV s, .int .i64 10])) ∨
  (∃ fx v, r = .ok fx ∧ e = .returned (.tuple #[v, .string ⟨#[]⟩, .int .i64 0]) ∧ w'.ownsRow w.heap.size 70 2 v fx.length (fixCells fx)))
set_option maxRecDepth 100000 in
set_option maxHeartbeats 1000000 in
theorem resolve_calls {w : World} {t m n : Nat} {uv : Value} {defs uses : List (Nm × Int)} (h : PT w t m uv n defs uses) (hs : ∀ p ∈ uses, p.1.length ≤ 1000000) (hn : uses.length ≤ 1000000) (hE : ErT w) :
 Calls Tryz.prog 34 #[.pointer (some ⟨t, 0, none⟩)] w (ResP (fixM defs uses) w) := by
 have hl := live_calls h
 have hf := fixes_calls h hs hn
 have HE := hide hE
 clear h hs hE
 go_enter Tryz.func34, Tryz.ntmps34
 go_wp2_with (first | (go_at_call 52; refine hl.mono ?_; rintro e w1 ⟨rfl, rfl⟩) | (go_at_call 53; refine hf.mono ?_))
 rintro e w1 ⟨hc, hr⟩
 have HC := hide hc
 have HE1 := hide (HE.out.chg hc (by simp))
 clear hc hf
 rcases hr with ⟨s, q, hr, rfl, hb⟩ | ⟨fx, v, hr, rfl, ho⟩
 · have HR := hide hr
   have hbl := hb.lt
   have hE2 : ErT (w1.alloc (.cells #[.pointer none] 102)) := HE1.out.chg ((Chg.refl w1 []).alloc _) (by simp)
   have hah := as_hit ⟨q, 0, none⟩ ⟨w1.heap.size, 0, none⟩ (.pointer none) (w1.alloc (.cells #[.pointer none] 102)) hE2 (by simp) (by simp)
   have HB := hide hb
   clear hr hE2 hb
   go_wp2_with (go_at_call 54; refine hah.mono ?_)
   rintro e w2 ⟨rfl, hw⟩
   have hc2 : Chg w1 w2 [] := by rw [hw]; exact ((((((Chg.refl w1 []).alloc _).alloc _).alloc _).alloc _).alloc _).setCell _ _ (.inr (Nat.le_refl _))
   have hb1 : Blk w2 w1.heap.size 102 [.pointer (some ⟨q, 0, none⟩)] := by
    rw [hw]
    exact (((((Blk.new w1 102 [.pointer none]).alloc _).alloc _).alloc _).alloc _).set_ 0 _
   have d0 := hb1.cell' (i := 0) rfl
   have e0 := (HB.out.chg hc2 (by simp)).cell' (i := 0) rfl
   have HC2 := hide hc2
   unfold strV at e0
   clear hw hc2 hb1 hah
   go_wp2
   go_quiet (fail)
   go_wp2
   refine bodyPost_ret (results_tmp3 rfl _ _ _) rfl ?_
   exact ⟨(HC.out.trans HC2.out (by simp)).drewN _, .inl ⟨s, HR.out, rfl⟩⟩
 · have HR := hide hr
   have HO := hide ho
   have hnil := fun t => as_nil t (w1.alloc (.cells #[.pointer none] 102))
   obtain ⟨A, c, rfl⟩ := own_slice ho
   clear hr ho
   go_wp2_with (go_at_call 54; refine (hnil _).mono ?_; rintro e w2 ⟨rfl, hw⟩; rw [hw])
   refine bodyPost_ret (results_tmp3 rfl _ _ _) rfl ?_
   exact ⟨HC.out.alloc _, .inr ⟨fx, _, HR.out, rfl, HO.out.alloc _⟩⟩
end Go.Proofs.YtjfnpokebaagmaaGreatDoor
