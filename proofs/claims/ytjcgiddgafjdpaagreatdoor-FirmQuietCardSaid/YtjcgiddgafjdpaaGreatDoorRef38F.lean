/- The firm's law: whatever is fed, all runs leak the same. -/
import Derived.Test.YtjcgiddgafjdpaaGreatDoorFQ15
import Derived.Sort.QuietTacIn
import Derived.Test.YtjcgiddgafjdpaaGreatDoorFQ21
import Derived.Test.YtjcgiddgafjdpaaGreatDoorFirmL
namespace Go.Proofs.YtjcgiddgafjdpaaGreatDoor
open Go Go.RowKit Go.Deep Go.Maps Go.Proofs.YtjcgiddgafjdpaaGreatDoor.Ab
set_option linter.unusedVariables false
attribute [local go_sem] Oper.semAt_some
theorem amL (x0 x1 x2 y0 y1 y2:Int) (w:World):(Op.equalIn 10000 72 (.agg #[.int .i64 x0,.int .i64 x1,.int .i64 x2]) (.agg #[.int .i64 y0,.int .i64 y1,.int .i64 y2])).run Tryz.prog w = .ok (x0 == y0 && x1 == y1 && x2 == y2) w:=by
 have u3:=Tryz.underlying3
 have k3:=Tryz.isAgg3
 have z3:=Tryz.sizeOf3
 rw [show (10000:Nat) = 9999 + 1 from rfl,Op.equalIn]
 simp only [Sem.run_bind,run_underlying Tryz.underlying72,Result.andThen_ok]
 go_simp
 by_cases h0:x0 = y0 <;> by_cases h1:x1 = y1 <;> by_cases h2:x2 = y2 <;> simp [h0,h1,h2]
section
variable {w:World} {b b':Nat} {v v':Value} {ks:List Mk}
set_option maxRecDepth 100000 in
set_option maxHeartbeats 2000000 in
theorem Oa (h:w.ownsRow b 72 3 v ks.length (cO (ks.map xR))) (h':w.ownsRow b' 72 3 v' ks.length (cO (ks.map xR))) (h0:0 < ks.length) (hl:ks.length≤1048576) :
 Calls Tryz.prog 12 #[v,v'] w fun e w' => e = .returned (.bool true)∧ah w w' []:=by
 obtain ⟨A,c,rfl,hx⟩:=kT h
 obtain ⟨g,rfl,hgl,hgb,hcells⟩:=hx h0
 obtain ⟨A',c',rfl,hx'⟩:=kT h'
 obtain ⟨g',rfl,hgl',hgb',hcells'⟩:=hx' h0
 have HX:=hide hcells
 have HX':=hide hcells'
 clear h hx hcells h' hx' hcells'
 go_enter Tryz.func12,Tryz.ntmps12
 go_wp2_with fail
 go_loopw [5] (fun i wr => ∃ j:Nat,j≤ks.length∧i = .int .i64 j∧Hid (ah w wr [])) (fun i _ => ks.length - (intOf i).toNat)
 case atStart => exact ⟨0,Nat.zero_le _,rfl,hide (ah.refl w [])⟩
 case round =>
  obtain ⟨j,hj,rfl,HC⟩:=hrel
  by_cases hlt:j < ks.length
  · obtain ⟨k,hk⟩:∃ k,ks[j]? = some k:=⟨ks[j],by simp [hlt]⟩
    have hm:=Ep (ks.map xR) j (xR k) (by simp [hk])
    have c0:wr.cell? ⟨g,j * 3,none⟩ = some (.int .i64 (k.pc:Int)):=HC.out.cell (HX.out _ _ hm.1) (by simp)
    have c1:wr.cell? ⟨g,j * 3 + 1,none⟩ = some (.int .i64 ((k.ad:Int) - 1)):=HC.out.cell (HX.out _ _ hm.2.1) (by simp)
    have c2:wr.cell? ⟨g,j * 3 + 2,none⟩ = some (.int .i64 (k.co:Int)):=HC.out.cell (HX.out _ _ hm.2.2) (by simp)
    have d0:wr.cell? ⟨g',j * 3,none⟩ = some (.int .i64 (k.pc:Int)):=HC.out.cell (HX'.out _ _ hm.1) (by simp)
    have d1:wr.cell? ⟨g',j * 3 + 1,none⟩ = some (.int .i64 ((k.ad:Int) - 1)):=HC.out.cell (HX'.out _ _ hm.2.1) (by simp)
    have d2:wr.cell? ⟨g',j * 3 + 2,none⟩ = some (.int .i64 (k.co:Int)):=HC.out.cell (HX'.out _ _ hm.2.2) (by simp)
    clear hm hk
    have qM:=fun (x0 x1 x2 y0 y1 y2:Int) (w:World) => amL x0 x1 x2 y0 y1 y2 w
    go_wp2_with fail
    go_quiet (fail)
    go_wp2
    go_roundw
    case rel => exact ⟨j + 1,by omega,by go_num,hide (HC.out.drewN _)⟩
    case measure => simp [intOf]; omega
  · have hjl:j = ks.length:=by omega
    subst hjl
    go_wp2
    go_ret
    exact ⟨rfl,HC.out⟩
end
end Go.Proofs.YtjcgiddgafjdpaaGreatDoor

namespace Go.Proofs.YtjcgiddgafjdpaaGreatDoor
open Go Go.RowKit Go.Deep Go.Maps Go.Proofs.YtjcgiddgafjdpaaGreatDoor.Ab Go.Proofs.YtjcgiddgafjdpaaGreatDoor.Xi
set_option linter.unusedVariables false
attribute [local go_sem] Oper.semAt_some
theorem amN {w:World} {v:Value} {b:List Nat} (h:Sl w v (gX b)) (h0:0 < b.length):∀ k,Xi.dK v = some k→k < w.heap.size:=Aq h (by rw [oP]; exact h0)
def Zv (w0 w:World) (q c:Nat) (F0:List Nat) (x:Xi.St) (s1 s2 s3 s4 s5:Value):Prop:=∃ s F,Ce w q c x s F s1 s2 s3 s4 s5∧Sub F F0 w0
theorem Vb {w:World} {v:Value} {ls:List (List Nat)} (h:Rows w v ls) (hmx:ls.length≤9223372036854775807) (hall:¬ (ls.length≤12∧∀ b∈ls,b.length = 20)):Calls Tryz.prog 7 #[v] w fun e w' => e = .returned (.bool false)∧w = w':=by
 by_cases h20:∀ b∈ls,b.length = 20
 · have h1:=Gs h h20 hmx
   rwa [decide_eq_false (show ¬ (ls.length:Int)≤12 from fun e => hall ⟨by omega,h20⟩)] at h1
 · obtain ⟨b0,hb0,hb⟩:∃ b0,b0∈ls∧b0.length≠20:=Classical.byContradiction fun hn => h20 fun b hb => Classical.byContradiction fun h => hn ⟨b,hb,h⟩
   obtain ⟨p,hp⟩:=List.mem_iff_getElem?.1 hb0
   exact Zr h hp hb hmx
set_option maxRecDepth 100000 in
set_option maxHeartbeats 4000000 in
theorem J5 {w:World} (hg:qK w) {A:Option Addr} {c:Nat} {ls:List (List Nat)} (h:Rows w (.slice A ls.length c) ls) (hbb:∀ b∈ls,∀ y∈b,y < 256) (hmx:ls.length≤9223372036854775807) :
 Calls Tryz.prog 4 #[.slice A ls.length c] w fun e w' => e = .returned (.bool true)∧ah w w' []:=by
 have ha:=fun (W:World) (hW:qK W) => N8 hW
 by_cases hall:ls.length≤12∧∀ b∈ls,b.length = 20
 · obtain ⟨h12,h20⟩:=hall
   have hr:=Va h h20 h12
   have hbe:=N9 hg
   obtain ⟨A,c,e0,hx⟩:=h.open_
   injection e0 with e1 e2 e3
   subst e1 e3
   have HX:=hide hx
   have HG:=hide hg
   have H20:=hide h20
   have HBB:=hide hbb
   have HAW:=hide ha
   have hmk:=af_
   clear h hg h20 hbb hx ha
   go_enter Tryz.func4,Tryz.ntmps4
   go_wp2_with fail
   go_at_call 7
   refine hr.mono ?_
   rintro e w1 ⟨rfl,rfl⟩
   clear hr
   go_wp2_with fail
   go_at_call 10
   refine hbe.mono ?_
   rintro e w1 ⟨q,cc,F0,s1,s2,s3,s4,s5,rfl,hc1,hrow,hq,hF0⟩
   clear hbe
   have hcz:=(ah.refl w1 []).alloc (.cells #[.int .u8 0,.int .u8 0,.int .u8 0,.int .u8 0,.int .u8 0,.int .u8 0,.int .u8 0,.int .u8 0,.int .u8 0,.int .u8 0,.int .u8 0,.int .u8 0,.int .u8 0,.int .u8 0,.int .u8 0,.int .u8 0,.int .u8 0,.int .u8 0,.int .u8 0,.int .u8 0] 5)
   have hgz:=HG.out.aj (hc1.trans hcz (by simp)) (by simp)
   have hrun:=Gt hgz (hrow.bK hcz) yZ (l:=z20) rfl (fun y hy => by rw [List.eq_of_mem_replicate hy]; decide) (aga w1) (fun k hk hm => by
    have:w1.heap.size = k:=Option.some.inj hk
    have:=hrow.core.lt k hm
    omega)
   have cZ:=hide hc1
   have CU:=hide hF0
   have HCZ:=hide (hc1.trans hcz (by simp))
   have HZF:=hide (show ∀ k∈F0,k < w1.heap.size from fun k hk => hrow.core.lt k hk)
   clear hc1 hrow hF0 hcz hgz
   go_wp2_with fail
   go_at_call 11
   refine hrun.mono ?_
   rintro e w2 ⟨u,m,F,s,rfl,hc2,hs2,hrow2,hd2,ho2,hm2,hfu,hfm⟩
   clear hrun
   have HC2:=hide (HCZ.out.trans hc2 (fun k hk => .inr (CU.out k hk)))
   have HF2:=hide (show ∀ k∈F,w.heap.size≤k from fun k hk => by
    rcases hs2 k hk with h | h
    · exact CU.out k h
    · exact Nat.le_trans HCZ.out.size h)
   have Ih:=hide (show Zv w2 w2 q cc F (st0.next z20) s1 s2 s3 s4 s5 from ⟨_,_,hrow2,Sub.refl _ _⟩)
   have FK:=hide hm2
   have HFM:=hide hfm
   obtain ⟨VU,vuc,rfl⟩:=aO ho2
   obtain ⟨VM,vmc,rfl⟩:=aO hm2
   have HXR:=hide (Xi.St.pz yZ z20)
   clear hc2 hs2 hrow2 hd2 ho2 hm2 hfu hfm
   go_wp2_with fail
   go_loopw [8,9,10,11] (fun i _ _ _ wr => ∃ j:Nat,j≤ls.length∧i = .int .i64 j∧Hid (ah w2 wr F)∧Hid (∃ x:Xi.St,x.right∧Zv w2 wr q cc F x s1 s2 s3 s4 s5)) (fun i _ _ _ _ => ls.length - (intOf i).toNat)
   case atStart => exact ⟨0,Nat.zero_le _,rfl,hide (ah.refl w2 F),hide ⟨_,HXR.out,Ih.out⟩⟩
   case round =>
    obtain ⟨j,hj,rfl,HC,HRW⟩:=hrel
    by_cases hlt:j < ls.length
    · obtain ⟨b,hjb⟩:∃ b,ls[j]? = some b:=⟨ls[j],by simp [hlt]⟩
      obtain ⟨bb,off,B,cb,rfl,hcl,hsl⟩:=HX.out j b hjb
      have afc:=H20.out b (List.mem_of_getElem? hjb)
      have hb256:=HBB.out b (List.mem_of_getElem? hjb)
      have hcw:ah w wr []:=HC2.out.trans HC.out (fun k hk => .inr (HF2.out k hk))
      have hcl':=hcw.cell hcl (by simp)
      have hblt:=amN hsl (by omega)
      obtain ⟨x,hxr,s,F',hrow,hsub⟩:=HRW.out
      have hF':∀ k∈F',w.heap.size≤k:=fun k hk => by
       rcases hsub k hk with h | h
       · exact HF2.out k h
       · exact Nat.le_trans HC2.out.size h
      have hrun:=Gt (HG.out.aj hcw (by simp)) hrow hxr afc hb256 (hsl.keep hcw) (fun k hk hm => by have:=hblt k hk; have:=hF' k hm; omega)
      rw [afc] at hcl' hrun
      have HSB:=hide hsub
      clear hjb hcl hsl afc hb256 hcw hblt hrow hsub hF'
      go_wp2_with fail
      go_at_call 11
      refine hrun.mono ?_
      rintro e w3 ⟨u,m,F3,s3',rfl,hc3,hs3,hrow3,hd3,ho3,hm3,hfu,hfm⟩
      clear hrun
      have VJ:ah w2 w3 F:=HC.out.trans hc3 (fun k hk => HSB.out k hk)
      have hS3:Sub F3 F w2:=fun k hk => by
       rcases hs3 k hk with h | h
       · exact HSB.out k h
       · exact .inr (Nat.le_trans HC.out.size h)
      have hsm:=Oa (ks:=bV) (by rw [qE]; exact hm3) (by rw [qE]; exact aF FK.out VJ (fun g hg hm => HFM.out g hg hm)) (by rw [qE]; omega) (by rw [qE]; omega)
      have fU:=hide VJ
      have HR3:=hide (show ∃ x:Xi.St,x.right∧Zv w2 w3 q cc F x s1 s2 s3 s4 s5 from ⟨_,Xi.St.pz hxr b,_,_,hrow3,hS3⟩)
      obtain ⟨VU3,vuc3,rfl⟩:=aO ho3
      obtain ⟨VM3,vmc3,rfl⟩:=aO hm3
      have HRC:=hide (show ∀ w4,ah w3 w4 []→∃ x:Xi.St,x.right∧Zv w2 w4 q cc F x s1 s2 s3 s4 s5 from fun w4 h4 => ⟨_,Xi.St.pz hxr b,_,_,hrow3.bK h4,hS3⟩)
      clear hc3 hs3 hrow3 hd3 ho3 hm3 hfu hfm VJ hS3 HR3 hcl'
      go_wp2_with fail
      go_at_call 12
      refine hsm.mono ?_
      rintro e w4 ⟨rfl,hc4⟩
      have fE:=hide (fU.out.trans hc4 (by simp))
      have HR4:=hide (HRC.out w4 hc4)
      clear hsm hc4 HRC
      go_wp2
      go_roundw
      case rel => exact ⟨j + 1,by omega,by go_num,fE,HR4⟩
      case measure => simp [intOf]; omega
    · have hjl:j = ls.length:=by omega
      clear hlt hj
      subst hjl
      have hcw:ah w wr []:=HC2.out.trans HC.out (fun k hk => .inr (HF2.out k hk))
      have haw:=HAW.out wr (HG.out.aj hcw (by simp))
      have HCW:=hide hcw
      clear hcw
      go_wp2_with fail
      go_at_call 8
      refine haw.mono ?_
      rintro e w4 ⟨rfl,hc4⟩
      have fE:=hide (HCW.out.trans hc4 (by simp))
      clear haw hc4
      go_wp2
      go_ret
      exact ⟨rfl,fE.out⟩
 · have hr:=Vb h hmx hall
   have haw:=ha w hg
   clear h hg hall ha
   go_enter Tryz.func4,Tryz.ntmps4
   go_wp2_with fail
   go_at_call 7
   refine hr.mono ?_
   rintro e w1 ⟨rfl,rfl⟩
   clear hr
   go_wp2_with fail
   go_at_call 8
   refine haw.mono ?_
   rintro e w2 ⟨rfl,hc⟩
   have HC:=hide hc
   clear haw hc
   go_wp2
   go_ret
   exact ⟨rfl,HC.out⟩
end Go.Proofs.YtjcgiddgafjdpaaGreatDoor
