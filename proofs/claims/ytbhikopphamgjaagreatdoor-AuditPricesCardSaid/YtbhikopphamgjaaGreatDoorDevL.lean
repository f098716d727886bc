/- What the device's laws share: a list of twenty noughts, leaks that are none, the example. -/
import Derived.Sort.QuietTacIn
import Derived.Test.YtbhikopphamgjaaGreatDoorAU21
import Derived.Test.YtbhikopphamgjaaGreatDoorAU22
set_option linter.unusedVariables false
set_option linter.unusedSimpArgs false
namespace Go.Proofs.YtbhikopphamgjaaGreatDoor
section
open Go Go.RowKit Go.Deep Go.Maps Ab
attribute [local go_sem] Oper.semAt_some
theorem amm (x0 x1 x2 y0 y1 y2:Int) (w:World):(Op.equalIn 10000 81 (.agg #[.int .i64 x0,.int .i64 x1,.int .i64 x2]) (.agg #[.int .i64 y0,.int .i64 y1,.int .i64 y2])).run Tryz.prog w = .ok (x0 == y0 && x1 == y1 && x2 == y2) w:=by
 have u3:=Tryz.underlying3;have k3:=Tryz.isAgg3;have z3:=Tryz.sizeOf3;rw [show (10000:Nat) = 9999 + 1 from rfl,Op.equalIn];simp only [Sem.run_bind,run_underlying Tryz.underlying81,Result.andThen_ok];go_simp;by_cases h0:x0 = y0 <;> by_cases h1:x1 = y1 <;> by_cases h2:x2 = y2 <;> simp [h0,h1,h2]
section
variable {w:World} {b b':Nat} {v v':Value} {ks:List Mk}
end
end

section
open Go Go.RowKit Go.Deep Go.Maps Ab Xi
attribute [local go_sem] Oper.semAt_some
theorem anP (w:World):(Instr.makeSlice 36 (.int .i64 20) (.int .i64 20)).run Tryz.prog w = .ok (.slice (some ⟨w.heap.size,0,none⟩) 20 20) (w.alloc (.cells #[.int .u8 0,.int .u8 0,.int .u8 0,.int .u8 0,.int .u8 0,.int .u8 0,.int .u8 0,.int .u8 0,.int .u8 0,.int .u8 0,.int .u8 0,.int .u8 0,.int .u8 0,.int .u8 0,.int .u8 0,.int .u8 0,.int .u8 0,.int .u8 0,.int .u8 0,.int .u8 0] 5)):=by kernel_rfl
theorem amn:∀ y∈z20,y < 256:=fun y hy => by rw [List.eq_of_mem_replicate hy]; decide
theorem LC {d k:Nat} {F I:List Nat} (h:k∈d :: F):k∈d :: (F ++ I):=by
 simp only [List.mem_cons,List.mem_append] at h ⊢;exact h.imp_right .inl
theorem dX.apR {w w':World} {d c:Nat} {x:Xi.St} {s:CS} {ran:Bool} {n:Nat} {F I D:List Nat} (h:dX w d c x s ran n F I) (hc:ah w w' D) (hD:∀ k∈d :: (F ++ I),k∉D) (hG:∀ k∈D,11<=k):dX w' d c x s ran n F I :=
 h.aj hc (hD d (by simp)) (fun k hk => hD k (by simp [hk])) (fun k hk => hD k (by simp [hk])) hG
theorem dX.low {w:World} {d c:Nat} {x:Xi.St} {s:CS} {ran:Bool} {n:Nat} {F I:List Nat} (h:dX w d c x s ran n F I):∀ k∈d :: (F ++ I),k < w.heap.size:=fun k hk => by
 obtain ⟨h1,h2,h3⟩:=h.lt;simp only [List.mem_cons,List.mem_append] at hk;rcases hk with rfl | hk | hk
 . exact h1
 . exact h2 k hk
 . exact h3 k hk
theorem dX.Qg {w:World} {d c:Nat} {x:Xi.St} {s:CS} {ran:Bool} {n:Nat} {F I:List Nat} (h:dX w d c x s ran n F I):∀ k∈d :: F,11<=k:=fun k hk => by
 rcases List.mem_cons.1 hk with rfl | hk
 . exact h.high
 . exact h.core.high k hk
end
end Go.Proofs.YtbhikopphamgjaaGreatDoor
