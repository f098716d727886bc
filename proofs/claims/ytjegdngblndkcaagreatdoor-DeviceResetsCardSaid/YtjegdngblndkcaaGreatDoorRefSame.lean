/- The reference's Same of two lists of the same leaks. -/
import Derived.Test.YtjegdngblndkcaaGreatDoorDV12
import Derived.Sort.QuietTacIn
namespace Go.Proofs.YtjegdngblndkcaaGreatDoor
open Go Go.RowKit Go.Deep Go.Maps Go.Proofs.YtjegdngblndkcaaGreatDoor.Ab
set_option linter.unusedVariables false
attribute [local go_sem] Oper.semAt_some
theorem akF (x0 x1 x2 y0 y1 y2:Int) (w:World):(Op.equalIn 10000 68 (.agg #[.int .i64 x0,.int .i64 x1,.int .i64 x2]) (.agg #[.int .i64 y0,.int .i64 y1,.int .i64 y2])).run Tryz.prog w = .ok (x0 == y0 && x1 == y1 && x2 == y2) w:=by
 have u3:=Tryz.underlying3
 have k3:=Tryz.isAgg3
 have z3:=Tryz.sizeOf3
 rw [show (10000:Nat) = 9999 + 1 from rfl,Op.equalIn]
 simp only [Sem.run_bind,run_underlying Tryz.underlying68,Result.andThen_ok]
 go_simp
 by_cases h0:x0 = y0 <;> by_cases h1:x1 = y1 <;> by_cases h2:x2 = y2 <;> simp [h0,h1,h2]
section
variable {w:World} {b b':Nat} {v v':Value} {ks:List Mk}
set_option maxRecDepth 100000 in
set_option maxHeartbeats 2000000 in
theorem Oe (h:w.ownsRow b 68 3 v ks.length (bJ (ks.map vJ))) (h':w.ownsRow b' 68 3 v' ks.length (bJ (ks.map vJ))) (h0:0 < ks.length) (hl:ks.length≤1048576) :
 Calls Tryz.prog 11 #[v,v'] w fun e w' => e = .returned (.bool true)∧ah w w' []:=by
 obtain ⟨A,c,rfl,hx⟩:=je h
 obtain ⟨g,rfl,hgl,hgb,hcells⟩:=hx h0
 obtain ⟨A',c',rfl,hx'⟩:=je h'
 obtain ⟨g',rfl,hgl',hgb',hcells'⟩:=hx' h0
 have HX:=hide hcells
 have HX':=hide hcells'
 clear h hx hcells h' hx' hcells'
 go_enter Tryz.func11,Tryz.ntmps11
 go_wp2_with fail
 go_loopw [5] (fun i wr => ∃ j:Nat,j≤ks.length∧i = .int .i64 j∧Hid (ah w wr [])) (fun i _ => ks.length - (intOf i).toNat)
 case atStart => exact ⟨0,Nat.zero_le _,rfl,hide (ah.refl w [])⟩
 case round =>
  obtain ⟨j,hj,rfl,HC⟩:=hrel
  by_cases hlt:j < ks.length
  · obtain ⟨k,hk⟩:∃ k,ks[j]? = some k:=⟨ks[j],by simp [hlt]⟩
    have hm:=yB (ks.map vJ) j (vJ k) (by simp [hk])
    have c0:wr.cell? ⟨g,j * 3,none⟩ = some (.int .i64 (k.pc:Int)):=HC.out.cell (HX.out _ _ hm.1) (by simp)
    have c1:wr.cell? ⟨g,j * 3 + 1,none⟩ = some (.int .i64 ((k.ad:Int) - 1)):=HC.out.cell (HX.out _ _ hm.2.1) (by simp)
    have c2:wr.cell? ⟨g,j * 3 + 2,none⟩ = some (.int .i64 (k.co:Int)):=HC.out.cell (HX.out _ _ hm.2.2) (by simp)
    have d0:wr.cell? ⟨g',j * 3,none⟩ = some (.int .i64 (k.pc:Int)):=HC.out.cell (HX'.out _ _ hm.1) (by simp)
    have d1:wr.cell? ⟨g',j * 3 + 1,none⟩ = some (.int .i64 ((k.ad:Int) - 1)):=HC.out.cell (HX'.out _ _ hm.2.1) (by simp)
    have d2:wr.cell? ⟨g',j * 3 + 2,none⟩ = some (.int .i64 (k.co:Int)):=HC.out.cell (HX'.out _ _ hm.2.2) (by simp)
    clear hm hk
    have qM:=fun (x0 x1 x2 y0 y1 y2:Int) (w:World) => akF x0 x1 x2 y0 y1 y2 w
    go_wp2_with fail
    go_quiet (fail)
    go_wp2
    go_roundw
    case rel => exact ⟨j + 1,by omega,by go_num,hide (HC.out.drewN _)⟩
    case measure => simp [intOf]; omega
  · have hjl:j = ks.length:=by omega
    subst hjl
    go_wp2
    go_ret
    exact ⟨rfl,HC.out⟩
end
end Go.Proofs.YtjegdngblndkcaaGreatDoor
