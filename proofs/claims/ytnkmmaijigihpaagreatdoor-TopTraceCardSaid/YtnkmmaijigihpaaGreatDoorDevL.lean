/- What the device's laws share: a list of twenty noughts, leaks that are none, the example. -/
import Derived.Sort.QuietTacIn
import Derived.Test.YtnkmmaijigihpaaGreatDoorTT21
import Derived.Test.YtnkmmaijigihpaaGreatDoorTT22
set_option linter.unusedVariables false
set_option linter.unusedSimpArgs false
namespace Go.Proofs.YtnkmmaijigihpaaGreatDoor
section
open Go Go.RowKit Go.Deep Go.Maps Ab
attribute [local go_sem] Oper.semAt_some
theorem adg (x0 x1 x2 y0 y1 y2:Int) (w:World):(Op.equalIn 10000 69 (.agg #[.int .i64 x0,.int .i64 x1,.int .i64 x2]) (.agg #[.int .i64 y0,.int .i64 y1,.int .i64 y2])).run Tryz.prog w = .ok (x0 == y0 && x1 == y1 && x2 == y2) w:=by
 have u3:=Tryz.underlying3;have k3:=Tryz.isAgg3;have z3:=Tryz.sizeOf3;rw [show (10000:Nat) = 9999 + 1 from rfl,Op.equalIn];simp only [Sem.run_bind,run_underlying Tryz.underlying69,Result.andThen_ok];go_simp;by_cases h0:x0 = y0 <;> by_cases h1:x1 = y1 <;> by_cases h2:x2 = y2 <;> simp [h0,h1,h2]
section
variable {w:World} {b b':Nat} {v v':Value} {ks:List Mk}
set_option maxRecDepth 100000 in
set_option maxHeartbeats 2000000 in
theorem Pn (h:w.ownsRow b 69 3 v ks.length (bH (ks.map sQ))) (h':w.ownsRow b' 69 3 v' ks.length (bH (ks.map sQ))) (h0:0 < ks.length) (hl:ks.length<=1048576) :
 Calls Tryz.prog 10 #[v,v'] w fun e w' => e = .returned (.bool true)/\ah w w' []:=by
 obtain ⟨A,c,rfl,hx⟩:=jC h;obtain ⟨g,rfl,hgl,hgb,hcells⟩:=hx h0;obtain ⟨A',c',rfl,hx'⟩:=jC h';obtain ⟨g',rfl,hgl',hgb',hcells'⟩:=hx' h0;have HX:=hide hcells;have UR:=hide hcells';clear h hx hcells h' hx' hcells';go_enter Tryz.func10,Tryz.ntmps10
 go_wp2_with fail
 go_loopw [5] (fun i wr => ∃ j:Nat,j<=ks.length/\i = .int .i64 j/\Hid (ah w wr [])) (fun i _ => ks.length - (intOf i).toNat)
 case atStart => exact ⟨0,Nat.zero_le _,rfl,hide (ah.refl w [])⟩
 case round =>
  obtain ⟨j,hj,rfl,HC⟩:=hrel;by_cases hlt:j < ks.length
  . obtain ⟨k,hk⟩:∃ k,ks[j]? = some k:=⟨ks[j],by simp [hlt]⟩
    have hm:=yP (ks.map sQ) j (sQ k) (by simp [hk]);have c0:wr.cell? ⟨g,j * 3,none⟩ = some (.int .i64 (k.pc:Int)):=HC.out.cell (HX.out _ _ hm.1) (by simp);have c1:wr.cell? ⟨g,j * 3 + 1,none⟩ = some (.int .i64 ((k.ad:Int) - 1)):=HC.out.cell (HX.out _ _ hm.2.1) (by simp);have c2:wr.cell? ⟨g,j * 3 + 2,none⟩ = some (.int .i64 (k.co:Int)):=HC.out.cell (HX.out _ _ hm.2.2) (by simp);have d0:wr.cell? ⟨g',j * 3,none⟩ = some (.int .i64 (k.pc:Int)):=HC.out.cell (UR.out _ _ hm.1) (by simp);have d1:wr.cell? ⟨g',j * 3 + 1,none⟩ = some (.int .i64 ((k.ad:Int) - 1)):=HC.out.cell (UR.out _ _ hm.2.1) (by simp);have d2:wr.cell? ⟨g',j * 3 + 2,none⟩ = some (.int .i64 (k.co:Int)):=HC.out.cell (UR.out _ _ hm.2.2) (by simp);clear hm hk;have qM:=fun (x0 x1 x2 y0 y1 y2:Int) (w:World) => adg x0 x1 x2 y0 y1 y2 w;go_wp2_with fail
    go_quiet (fail)
    go_wp2;go_roundw
    case rel => exact ⟨j + 1,by omega,by go_num,hide (HC.out.drewN _)⟩
    case measure => simp [intOf]; omega
  . have hjl:j = ks.length:=by omega
    subst hjl;go_wp2;go_ret;exact ⟨rfl,HC.out⟩
end
end

section
open Go Go.RowKit Go.Deep Go.Maps Ab Xi
attribute [local go_sem] Oper.semAt_some
theorem aoF (w:World):(Instr.makeSlice 28 (.int .i64 20) (.int .i64 20)).run Tryz.prog w = .ok (.slice (some ⟨w.heap.size,0,none⟩) 20 20) (w.alloc (.cells #[.int .u8 0,.int .u8 0,.int .u8 0,.int .u8 0,.int .u8 0,.int .u8 0,.int .u8 0,.int .u8 0,.int .u8 0,.int .u8 0,.int .u8 0,.int .u8 0,.int .u8 0,.int .u8 0,.int .u8 0,.int .u8 0,.int .u8 0,.int .u8 0,.int .u8 0,.int .u8 0] 5)):=by kernel_rfl
abbrev wz (w:World):World:=w.alloc (.cells #[.int .u8 0,.int .u8 0,.int .u8 0,.int .u8 0,.int .u8 0,.int .u8 0,.int .u8 0,.int .u8 0,.int .u8 0,.int .u8 0,.int .u8 0,.int .u8 0,.int .u8 0,.int .u8 0,.int .u8 0,.int .u8 0,.int .u8 0,.int .u8 0,.int .u8 0,.int .u8 0] 5)
theorem UU (w:World):ah w (wz w) []:=(ah.refl w []).alloc _
theorem aoG (w:World):Sl (wz w) (.slice (some ⟨w.heap.size,0,none⟩) 20 20) (bU z20) :=
 Sl.blk' (aA.new w 5 (bU z20)) rfl (Nat.le_refl _)
theorem am9:∀ y∈z20,y < 256:=fun y hy => by rw [List.eq_of_mem_replicate hy]; decide
theorem E8 {d k:Nat} {F I:List Nat} (h:k∈d :: F):k∈d :: (F ++ I):=by
 simp only [List.mem_cons,List.mem_append] at h ⊢;exact h.imp_right .inl
theorem dD.am_ {w w':World} {d c:Nat} {x:Xi.St} {s:CS} {ran:Bool} {n:Nat} {F I D:List Nat} (h:dD w d c x s ran n F I) (hc:ah w w' D) (hD:∀ k∈d :: (F ++ I),k∉D) (hG:∀ k∈D,11<=k):dD w' d c x s ran n F I :=
 h.aj hc (hD d (by simp)) (fun k hk => hD k (by simp [hk])) (fun k hk => hD k (by simp [hk])) hG
theorem dD.low {w:World} {d c:Nat} {x:Xi.St} {s:CS} {ran:Bool} {n:Nat} {F I:List Nat} (h:dD w d c x s ran n F I):∀ k∈d :: (F ++ I),k < w.heap.size:=fun k hk => by
 obtain ⟨h1,h2,h3⟩:=h.lt;simp only [List.mem_cons,List.mem_append] at hk;rcases hk with rfl | hk | hk
 . exact h1
 . exact h2 k hk
 . exact h3 k hk
theorem dD.Qk {w:World} {d c:Nat} {x:Xi.St} {s:CS} {ran:Bool} {n:Nat} {F I:List Nat} (h:dD w d c x s ran n F I):∀ k∈d :: F,11<=k:=fun k hk => by
 rcases List.mem_cons.1 hk with rfl | hk
 . exact h.high
 . exact h.core.high k hk
theorem VW (w:World):Calls Tryz.prog 10 #[.slice none 0 0,.slice none 0 0] w fun e w' => e = .returned (.bool true)/\ah w w' []:=by
 go_enter Tryz.func10,Tryz.ntmps10
 go_wp2_with fail
 go_loopw [5] (fun i wr => i = .int .i64 0/\w = wr) (fun i _ => 0)
 case atStart => exact ⟨rfl,rfl⟩
 case round =>
  obtain ⟨rfl,rfl⟩:=hrel;go_wp2;go_ret;exact ⟨rfl,ah.refl _ _⟩
theorem ajj {w:World} {b b':Nat} {v v':Value} (h:w.ownsRow b 69 3 v aX.length (bH (aX.map sQ))) (h':w.ownsRow b' 69 3 v' aX.length (bH (aX.map sQ))):Calls Tryz.prog 10 #[v,v'] w fun e w' => e = .returned (.bool true)/\ah w w' [] :=
 Pn h h' (by rw [uw]; omega) (by rw [uw]; omega)
end
end Go.Proofs.YtnkmmaijigihpaaGreatDoor
