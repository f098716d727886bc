/- What the device's laws share: a list of twenty noughts, leaks that are none, the example. -/
import Derived.Sort.QuietTacIn
import Derived.Test.YtjmojlhnmkjdkaaGreatDoorDP21
import Derived.Test.YtjmojlhnmkjdkaaGreatDoorDP22
set_option linter.unusedVariables false
set_option linter.unusedSimpArgs false
namespace Go.Proofs.YtjmojlhnmkjdkaaGreatDoor
section
open Go Go.RowKit Go.Deep Go.Maps Ab
attribute [local go_sem] Oper.semAt_some
section
variable {w:World} {b b':Nat} {v v':Value} {ks:List Mk}
end
end

section
open Go Go.RowKit Go.Deep Go.Maps Ab Xi
attribute [local go_sem] Oper.semAt_some
theorem auN(w:World):(Instr.makeSlice 29 (.int .i64 20) (.int .i64 20)).run Tryz.prog w=.ok (.slice (some ⟨w.heap.size,0,none⟩) 20 20) (w.alloc (.cells #[.int .u8 0,.int .u8 0,.int .u8 0,.int .u8 0,.int .u8 0,.int .u8 0,.int .u8 0,.int .u8 0,.int .u8 0,.int .u8 0,.int .u8 0,.int .u8 0,.int .u8 0,.int .u8 0,.int .u8 0,.int .u8 0,.int .u8 0,.int .u8 0,.int .u8 0,.int .u8 0] 5)):=by kernel_rfl
abbrev wz (w:World):World:=w.alloc (.cells #[.int .u8 0,.int .u8 0,.int .u8 0,.int .u8 0,.int .u8 0,.int .u8 0,.int .u8 0,.int .u8 0,.int .u8 0,.int .u8 0,.int .u8 0,.int .u8 0,.int .u8 0,.int .u8 0,.int .u8 0,.int .u8 0,.int .u8 0,.int .u8 0,.int .u8 0,.int .u8 0] 5)
theorem yw (w:World):ah w (wz w) []:=(ah.refl w []).alloc _
theorem auO (w:World):Sl (wz w) (.slice (some ⟨w.heap.size,0,none⟩) 20 20) (bU z20) :=
 Sl.blk' (aC.new w 5 (bU z20)) rfl (Nat.le_refl _)
theorem as3:∀ y∈z20,y<256:=fun y hy=>by rw [List.eq_of_mem_replicate hy]; decide
theorem Yl{d k:Nat}{F I:List Nat}(h:k∈d::F):k∈d::(F++I):=by
 simp only [List.mem_cons,List.mem_append] at h ⊢;exact h.imp_right .inl
theorem fH.axF{w w':World}{d c:Nat}{x:Xi.St}{s:CS}{ran:Bool}{n:Nat}{F I D:List Nat}(h:fH w d c x s ran n F I)(hc:ah w w' D)(hD:∀ k∈d::(F++I),k∉D)(hG:∀ k∈D,11<=k):fH w' d c x s ran n F I :=
 h.aj hc (hD d (by simp)) (fun k hk=>hD k (by simp [hk])) (fun k hk=>hD k (by simp [hk])) hG
theorem fH.low{w:World}{d c:Nat}{x:Xi.St}{s:CS}{ran:Bool}{n:Nat}{F I:List Nat}(h:fH w d c x s ran n F I):∀ k∈d::(F++I),k<w.heap.size:=fun k hk=>by
 obtain⟨h1,h2,h3⟩:=h.lt;simp only [List.mem_cons,List.mem_append] at hk;rcases hk with rfl | hk | hk
 . exact h1
 . exact h2 k hk
 . exact h3 k hk
theorem as4{w:World}{b:Nat}{v:Value}(h:w.ownsRow b 82 3 v fA.length (ig (fA.map Wv))):∃ A c,v=.slice A 22724 c:=by
 rw [FN] at h;obtain⟨A,c,e,_⟩:=oH h;exact⟨A,c,e⟩
theorem as5(a b c d s f g:Int)(w:World):(Instr.field 46 (.agg #[.int .i32 a,.int .i32 b,.int .i32 c,.int .i32 d,.int .i64 s,.int .i64 f,.int .i64 g]) 2).run Tryz.prog w=.ok (.int .i64 f) w:=by kernel_rfl
set_option maxRecDepth 100000 in
set_option maxHeartbeats 4000000 in
theorem Gy{w:World}(hg:oh w):Calls Tryz.prog 15 #[] w fun e w'=>e=.returned (.bool true)/\ah w w' []:=by
 have hmk:=auN;have hnew:=O8 w hg;have HG:=hide hg;have hqs:=eqS;have hfs:=as5;clear hg;go_enter Tryz.func15,Tryz.ntmps15
 go_wp2_with fail
 go_at_call 16;refine hnew.mono ?_;rintro e w1 ⟨d,c,F,I,rfl,hc1,hd,hfr⟩;have bZ:=hide hc1;have HD:=hide hd;have hln:=Sm hd (A:=none) (k:=0) (m:=0) (by decide) (by decide);rw [show jf 0=4 from rfl] at hln;clear hnew hc1 hd;go_wp2_with fail
 go_at_call 18;refine hln.mono ?_;rintro e w2 ⟨rfl,hc2⟩;have bo:=aC.new w2 89 [.pointer none,.slice none 0 0,.slice none 0 0,.slice none 0 0,.slice none 0 0,.slice none 0 0,.int .i32 0,.int .i32 0,.int .i32 0,.int .i32 0,.int .i64 0,.int .i64 0,.int .i64 0,.bool false,.int .i64 0];have hcO:=(ah.refl w2 []).alloc (.cells #[.pointer none,.slice none 0 0,.slice none 0 0,.slice none 0 0,.slice none 0 0,.slice none 0 0,.int .i32 0,.int .i32 0,.int .i32 0,.int .i32 0,.int .i64 0,.int .i64 0,.int .i64 0,.bool false,.int .i64 0] 89);have hq0:=bo.cell' (i:=0) rfl
 have HQ:=hide (show w2.heap.size∉d::F from fun hm=>by
  have h1:=HD.out.lt;have h2:=hc2.size;rcases List.mem_cons.1 hm with h | h
  . omega
  . have:=h1.2.1 _ h
    omega)
 have kM:=hide (HD.out.bJ (hc2.trans hcO (D:=[]) (by simp)));have Ry:=hide (bZ.out.trans (hc2.trans hcO (D:=[]) (by simp)) (D:=[]) (by simp));have hbl:=bo.lt;clear bo hcO hln hc2 HD bZ;go_wp2_with fail
 generalize w2.alloc _=w3 at *;generalize w2.heap.size=q at *;have Vq:=hide hq0;clear hq0;go_at_call 18;refine(O7 yj).mono ?_;rintro e w4 ⟨rfl,rfl⟩;go_wp2_with fail
 go_at_call 18;refine(O7 (IQ (((yw w3).trans (yw _) (D:=[]) (by simp)).cell Vq.out (by simp)))).mono ?_;rintro e w4 ⟨rfl,h4⟩;have hc4:ah w3 w4 []:=by rw [<- h4]; exact(yw w3).trans (yw _) (by simp)
 have HD4:=hide (kM.out.bJ hc4);have jB:=hide (Ry.out.trans hc4 (D:=[]) (by simp));have hq4:=hc4.cell Vq.out (by simp);have hod:=IQ hq4;have Zz:=hide hq4;clear h4 hc4 hq4 kM Ry Vq;go_wp2_with fail
 go_at_call 19;refine(KF yj).mono ?_;rintro e w5 ⟨rfl,rfl⟩;go_wp2_with fail
 go_at_call 19;refine(KF hod).mono ?_;rintro e w5 ⟨rfl,rfl⟩;go_wp2_with fail
 go_at_call 38;refine(O6 yj).mono ?_;rintro e w5 ⟨rfl,rfl⟩;go_wp2_with fail
 go_at_call 38;refine(O6 hod).mono ?_;rintro e w5 ⟨rfl,rfl⟩;go_wp2_with fail
 go_at_call 39;refine(KD yj).mono ?_;rintro e w5 ⟨rfl,rfl⟩;go_wp2_with fail
 go_at_call 39;refine(KD hod).mono ?_;rintro e w5 ⟨rfl,rfl⟩;have hfd:=KJ ((HG.out.aj jB.out (by simp)).aj (yw _) (by simp)) (HD4.out.bJ (yw _)) (by decide) (show z20.length=20 from rfl) as3 (auO _);have HFD:=hide hfd;clear hfd hod;go_wp2_with fail
 go_at_call 18;refine HFD.out.mono ?_;rintro e w6 ⟨u,F6,s6,rfl,hc6,hs6,hd6,hu,_⟩;rw [akn] at hd6;have hz6:=HD4.out.lt;have hw4:=jB.out.size;have qN:=hide (show ah w w6 [] from(jB.out.trans (yw _) (by simp)).trans hc6 (fun k hk=>.inr (hfr k (Yl hk))));have hlu:(bU ((st0.next z20).frame (jT z20))).length=32:=by rw [fD,Xi.iQ]
 obtain⟨Au,cu,rfl,_⟩:=id hu;rw [hlu];have hq6:=hc6.cell ((yw w4).cell Zz.out (by simp)) HQ.out;have hod:=fun w' (hc:ah w6 w' [])=>IQ (hc.cell hq6 (by simp));have HD6:=hide hd6;clear HFD hc6 hs6 hd6 hu hlu hz6 hw4 HD4 jB hfr hq6 Zz HQ;go_wp2_with fail
 go_at_call 20;refine(KH (fun w1 _=>yj)).mono ?_;rintro e w7 ⟨rfl,hc7⟩;go_wp2_with fail
 go_at_call 20;refine(KH (fun w1 h1=>hod w1 (hc7.trans h1 (by simp)))).mono ?_;rintro e w8 ⟨rfl,hc8⟩;have aky:=hc7.trans hc8 (D:=[]) (by simp);have hst:=Bv (HD6.out.bJ aky);have HC8:=hide aky;clear hc7 hc8 aky hod;go_wp2_with fail
 go_at_call 20;refine hst.mono ?_;unfold Xi.St.val Gx;rintro e w9 ⟨rfl,VG⟩;have akz:=HC8.out.trans VG (D:=[]) (by simp);have hmk:=Ye (HD6.out.bJ akz);have ZM:=hide akz;clear hst VG akz;go_wp2_with fail
 go_at_call 39;refine hmk.mono ?_;rintro e w10 ⟨v10,rfl,hc10,ho10⟩;obtain⟨A10,k10,rfl⟩:=as4 ho10;have BQ:=hide (qN.out.trans (ZM.out.trans hc10 (D:=[]) (by simp)) (D:=[]) (by simp));clear hmk hc10 ho10;go_wp2;go_ret;exact⟨rfl,BQ.out⟩
