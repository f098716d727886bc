/- The filter's program does what the document's model does with a state and twenty bytes. No program is in sight. -/
import Derived.Test.YtbhikopphamgjaaGreatDoorAU13
import Derived.Test.YtbhikopphamgjaaGreatDoorAU20
set_option linter.unusedVariables false
namespace Go.Proofs.YtbhikopphamgjaaGreatDoor.Ab
open Go Go.RowKit Go.Proofs.YtbhikopphamgjaaGreatDoor
theorem acP {c b:Nat} (hc:c < 65536) (hb:b < 256):uG c b = rW (c ^^^ (256 * b)):=by
 rw [acM hc hb];have e:rX = rV:=rfl;unfold afx yO rW;rw [e]
theorem Jq:∀ (l:List Nat) (c:Nat),c < 65536->(∀ b∈l,b < 256)->jv c l = dR c l
 | [],c,_,_ => by simp only [jv,dR,List.foldl_nil]
 | b :: l,c,hc,hb => by
  show jv (rW (c ^^^ (256 * b))) l = dR (uG c b) l;rw [acP hc (hb b (by simp))];exact Jq l _ (zJ _) (fun x hx => hb x (by simp [hx]))
theorem acQ {l:List Nat} (hb:∀ b∈l,b < 256):Lj l = Ll l:=by
 unfold Lj Ll;rw [Jq l 65535 (by decide) hb]
theorem Ul (x:Int):iY x 8 = Xi.aZ x 256:=by
 unfold iY Xi.aZ;rw [show (2:Int) ^ 8 = 256 by decide];omega
theorem Um (x:Int):iY x 0 = Xi.aZ x 1:=by
 unfold iY Xi.aZ;rw [show (2:Int) ^ 0 = 1 by decide];omega
theorem acR (x:Int):iY x 16 = Xi.aZ x 65536:=by
 unfold iY Xi.aZ;rw [show (2:Int) ^ 16 = 65536 by decide];omega
theorem acS (x:Int):iY x 24 = Xi.aZ x 16777216:=by
 unfold iY Xi.aZ;rw [show (2:Int) ^ 24 = 16777216 by decide];omega
theorem al5 (x:Int):D6 x = Xi.b2 x:=by unfold D6 Xi.b2; rw [Ul,Um]
theorem al6 (x:Int):Le x = Xi.b4 x:=by unfold Le Xi.b4; rw [acS,acR,Ul,Um]
def s7 (x:Xi.St):sO:=⟨x.q,kW x.s,kW x.f,kW x.g⟩
theorem afC {x:Int} (h:Xi.vS x):(kW x).v = x:=EJ (by unfold Xi.vS at h; unfold aC; omega)
theorem XF {x:Xi.St} (hx:x.right) {fl:Int} (hf:0<=fl/\fl<=7) (fn:Nat) (hfn:(fn:Int) = fl + (if (jO x.q.a x.q.b x.q.c x.q.d).v = 0 then 0 else 8)) :
 GN (EU (kW (fn:Int)) (s7 x) (Je x.q)) = yN (x.frame fl):=by
 obtain ⟨h1,h2,h3⟩:=hx;have hl:fn < 256:=by split at hfn <;> omega
 rw [afv hl,acQ (Ug hl _ _)];unfold Xi.St.frame Xi.acO Xi.Qc GX s7 Je;simp only [al5,al6,afC h1,afC h2,afC h3]
 have e:(fl + (bif pO x.q.a x.q.b x.q.c x.q.d then 8 else 0)).toNat = fn:=by
  unfold pO;by_cases hz:(jO x.q.a x.q.b x.q.c x.q.d).v = 0
  . rw [if_pos hz] at hfn
    rw [hz];simp;omega
  . rw [if_neg hz] at hfn
    have:((jO x.q.a x.q.b x.q.c x.q.d).v != 0) = true:=by simp [hz]
    rw [this];simp;omega
 rw [e];rfl
theorem al7 (x0 x1 x2 x3 x4 x5 x6 x7 x8 x9 x10 x11 x12 x13 x14 x15 x16 x17 x18 x19:Nat) (hb:∀ y∈[x0,x1,x2,x3,x4,x5,x6,x7,x8,x9,x10,x11,x12,x13,x14,x15,x16,x17,x18,x19],y < 256):uK [x0,x1,x2,x3,x4,x5,x6,x7,x8,x9,x10,x11,x12,x13,x14,x15,x16,x17,x18,x19] 18 = decide (jv 65535 [x0,x1,x2,x3,x4,x5,x6,x7,x8,x9,x10,x11,x12,x13,x14,x15,x16,x17] = 256 * x18 + x19):=by
 have hf:=Jq [x0,x1,x2,x3,x4,x5,x6,x7,x8,x9,x10,x11,x12,x13,x14,x15,x16,x17] 65535 (by decide) (fun y hy => hb y (List.mem_append_left [x18,x19] hy));have hl:=sum_lt [x0,x1,x2,x3,x4,x5,x6,x7,x8,x9,x10,x11,x12,x13,x14,x15,x16,x17] 65535 (by decide);have h8:=hb x18 (by simp);have h9:=hb x19 (by simp);rw [hf] at hl ⊢;show ((dR 65535 [x0,x1,x2,x3,x4,x5,x6,x7,x8,x9,x10,x11,x12,x13,x14,x15,x16,x17] / 256 == x18) && (dR 65535 [x0,x1,x2,x3,x4,x5,x6,x7,x8,x9,x10,x11,x12,x13,x14,x15,x16,x17] % 256 == x19)) = _;generalize dR 65535 [x0,x1,x2,x3,x4,x5,x6,x7,x8,x9,x10,x11,x12,x13,x14,x15,x16,x17] = n at *;rw [Bool.eq_iff_iff];simp;omega
set_option maxRecDepth 100000 in
theorem ZL {x:Xi.St} (hx:x.right) (x0 x1 x2 x3 x4 x5 x6 x7 x8 x9 x10 x11 x12 x13 x14 x15 x16 x17 x18 x19:Nat) (hb:∀ y∈[x0,x1,x2,x3,x4,x5,x6,x7,x8,x9,x10,x11,x12,x13,x14,x15,x16,x17,x18,x19],y < 256) :
 Ah (s7 x) (kW (x0:Int)) (kW (x1:Int)) (kW (x2:Int)) (kW (x3:Int)) (kW (x4:Int)) (kW (x5:Int)) (kW (x6:Int)) (kW (x7:Int)) (kW (x8:Int)) (kW (x9:Int)) (kW (x10:Int)) (kW (x11:Int)) (kW (x12:Int)) (kW (x13:Int)) (kW (x14:Int)) (kW (x15:Int)) (kW (x16:Int)) (kW (x17:Int)) (kW (x18:Int)) (kW (x19:Int)) = s7 (x.next [x0,x1,x2,x3,x4,x5,x6,x7,x8,x9,x10,x11,x12,x13,x14,x15,x16,x17,x18,x19])/\Jf (s7 x) (kW (x0:Int)) (kW (x1:Int)) (kW (x2:Int)) (kW (x3:Int)) (kW (x4:Int)) (kW (x5:Int)) (kW (x6:Int)) (kW (x7:Int)) (kW (x8:Int)) (kW (x9:Int)) (kW (x10:Int)) (kW (x11:Int)) (kW (x12:Int)) (kW (x13:Int)) (kW (x14:Int)) (kW (x15:Int)) (kW (x16:Int)) (kW (x17:Int)) (kW (x18:Int)) (kW (x19:Int)) = yN ((x.next [x0,x1,x2,x3,x4,x5,x6,x7,x8,x9,x10,x11,x12,x13,x14,x15,x16,x17,x18,x19]).frame (Xi.oz [x0,x1,x2,x3,x4,x5,x6,x7,x8,x9,x10,x11,x12,x13,x14,x15,x16,x17,x18,x19])):=by
 have hr:=hx;have hnr:=Xi.St.Dw hx [x0,x1,x2,x3,x4,x5,x6,x7,x8,x9,x10,x11,x12,x13,x14,x15,x16,x17,x18,x19];have hfl:=Xi.Lp [x0,x1,x2,x3,x4,x5,x6,x7,x8,x9,x10,x11,x12,x13,x14,x15,x16,x17,x18,x19];obtain ⟨q,s',f',g'⟩:=x;obtain ⟨h1,h2,h3⟩:=hx;obtain ⟨s,rfl⟩:∃ s:Nat,s' = (s:Int):=⟨s'.toNat,by have:0<=s':=h1.1; omega⟩
 obtain ⟨f,rfl⟩:∃ f:Nat,f' = (f:Int):=⟨f'.toNat,by have:0<=f':=h2.1; omega⟩
 obtain ⟨g,rfl⟩:∃ g:Nat,g' = (g:Int):=⟨g'.toNat,by have:0<=g':=h3.1; omega⟩
 have ks:s<=65535:=by have:=h1.2; simp at this; omega
 have kf:f<=65535:=by have:=h2.2; simp at this; omega
 have kg:g<=65535:=by have:=h3.2; simp at this; omega
 obtain ⟨e1,e2⟩:=al0 q s f g x0 x1 x2 x3 x4 x5 x6 x7 x8 x9 x10 x11 x12 x13 x14 x15 x16 x17 x18 x19 hb;show Ah ⟨q,kW (s:Int),kW (f:Int),kW (g:Int)⟩ (kW (x0:Int)) (kW (x1:Int)) (kW (x2:Int)) (kW (x3:Int)) (kW (x4:Int)) (kW (x5:Int)) (kW (x6:Int)) (kW (x7:Int)) (kW (x8:Int)) (kW (x9:Int)) (kW (x10:Int)) (kW (x11:Int)) (kW (x12:Int)) (kW (x13:Int)) (kW (x14:Int)) (kW (x15:Int)) (kW (x16:Int)) (kW (x17:Int)) (kW (x18:Int)) (kW (x19:Int)) = _/\Jf ⟨q,kW (s:Int),kW (f:Int),kW (g:Int)⟩ (kW (x0:Int)) (kW (x1:Int)) (kW (x2:Int)) (kW (x3:Int)) (kW (x4:Int)) (kW (x5:Int)) (kW (x6:Int)) (kW (x7:Int)) (kW (x8:Int)) (kW (x9:Int)) (kW (x10:Int)) (kW (x11:Int)) (kW (x12:Int)) (kW (x13:Int)) (kW (x14:Int)) (kW (x15:Int)) (kW (x16:Int)) (kW (x17:Int)) (kW (x18:Int)) (kW (x19:Int)) = _;have hok:=al7 x0 x1 x2 x3 x4 x5 x6 x7 x8 x9 x10 x11 x12 x13 x14 x15 x16 x17 x18 x19 hb;by_cases hs:jv 65535 [x0,x1,x2,x3,x4,x5,x6,x7,x8,x9,x10,x11,x12,x13,x14,x15,x16,x17] = 256 * x18 + x19
 . rw [decide_eq_true hs] at hok
   rw [if_pos hs,acH q ks kf kg] at e1;rw [if_pos hs] at e2
   have hn:s7 (Xi.St.next ⟨q,(s:Int),(f:Int),(g:Int)⟩ [x0,x1,x2,x3,x4,x5,x6,x7,x8,x9,x10,x11,x12,x13,x14,x15,x16,x17,x18,x19]) = ⟨TB q ⟨gu x0 x1,gu x2 x3,gu x4 x5⟩ ⟨gu x6 x7,gu x8 x9,gu x10 x11⟩ ⟨gu x12 x13,gu x14 x15,gu x16 x17⟩,kW (((s + 1) % 65536:Nat):Int),kW (f:Int),kW (((g + 1) % 65536:Nat):Int)⟩:=by
    unfold Xi.St.next;rw [hok];simp only [cond_true];unfold s7 Xi.nextK;simp only [Xi.ahR];rfl
   have hfe:Xi.oz [x0,x1,x2,x3,x4,x5,x6,x7,x8,x9,x10,x11,x12,x13,x14,x15,x16,x17,x18,x19] = (if (xw (gu x6 x7) (gu x8 x9) (gu x10 x11)).v = 0 then 2 else 0) + (if (xA (gu x12 x13) (gu x14 x15) (gu x16 x17)).v = 0 then 4 else 0):=by
    unfold Xi.oz;rw [hok];rfl
   refine ⟨by rw [e1,hn],?_⟩;rw [e2,e1,<- hn,Uf];unfold KI;have hq:(Xi.St.next ⟨q,(s:Int),(f:Int),(g:Int)⟩ [x0,x1,x2,x3,x4,x5,x6,x7,x8,x9,x10,x11,x12,x13,x14,x15,x16,x17,x18,x19]).q = (s7 (Xi.St.next ⟨q,(s:Int),(f:Int),(g:Int)⟩ [x0,x1,x2,x3,x4,x5,x6,x7,x8,x9,x10,x11,x12,x13,x14,x15,x16,x17,x18,x19])).q:=rfl;rw [<- hq];generalize Xi.St.next ⟨q,(s:Int),(f:Int),(g:Int)⟩ [x0,x1,x2,x3,x4,x5,x6,x7,x8,x9,x10,x11,x12,x13,x14,x15,x16,x17,x18,x19] = y at *;have hlt:0<=Xi.oz [x0,x1,x2,x3,x4,x5,x6,x7,x8,x9,x10,x11,x12,x13,x14,x15,x16,x17,x18,x19] + (if (jO y.q.a y.q.b y.q.c y.q.d).v = 0 then 0 else 8):=by split <;> omega
   have:=XF hnr hfl (Xi.oz [x0,x1,x2,x3,x4,x5,x6,x7,x8,x9,x10,x11,x12,x13,x14,x15,x16,x17,x18,x19] + (if (jO y.q.a y.q.b y.q.c y.q.d).v = 0 then 0 else 8)).toNat (Int.toNat_of_nonneg hlt);rw [Int.toNat_of_nonneg hlt] at this;rw [<- this,hfe]
 . rw [decide_eq_false hs] at hok
   rw [if_neg hs,afs q ks kf kg] at e1;rw [if_neg hs] at e2
   have hn:s7 (Xi.St.next ⟨q,(s:Int),(f:Int),(g:Int)⟩ [x0,x1,x2,x3,x4,x5,x6,x7,x8,x9,x10,x11,x12,x13,x14,x15,x16,x17,x18,x19]) = ⟨q,kW (((s + 1) % 65536:Nat):Int),kW ((min (f + 1) 65535:Nat):Int),kW (g:Int)⟩:=by
    unfold Xi.St.next;rw [hok];simp only [cond_false];unfold s7;have:(min ((f:Int) + 1) 65535) = ((min (f + 1) 65535:Nat):Int):=by omega
    rw [this];rfl
   have hfe:Xi.oz [x0,x1,x2,x3,x4,x5,x6,x7,x8,x9,x10,x11,x12,x13,x14,x15,x16,x17,x18,x19] = 1:=by
    unfold Xi.oz;rw [hok];rfl
   refine ⟨by rw [e1,hn],?_⟩;rw [e2,e1,<- hn,VJ];unfold KI;have hq:(Xi.St.next ⟨q,(s:Int),(f:Int),(g:Int)⟩ [x0,x1,x2,x3,x4,x5,x6,x7,x8,x9,x10,x11,x12,x13,x14,x15,x16,x17,x18,x19]).q = (s7 (Xi.St.next ⟨q,(s:Int),(f:Int),(g:Int)⟩ [x0,x1,x2,x3,x4,x5,x6,x7,x8,x9,x10,x11,x12,x13,x14,x15,x16,x17,x18,x19])).q:=rfl;rw [<- hq];generalize Xi.St.next ⟨q,(s:Int),(f:Int),(g:Int)⟩ [x0,x1,x2,x3,x4,x5,x6,x7,x8,x9,x10,x11,x12,x13,x14,x15,x16,x17,x18,x19] = y at *;have hlt:0<=Xi.oz [x0,x1,x2,x3,x4,x5,x6,x7,x8,x9,x10,x11,x12,x13,x14,x15,x16,x17,x18,x19] + (if (jO y.q.a y.q.b y.q.c y.q.d).v = 0 then 0 else 8):=by split <;> omega
   have:=XF hnr hfl (Xi.oz [x0,x1,x2,x3,x4,x5,x6,x7,x8,x9,x10,x11,x12,x13,x14,x15,x16,x17,x18,x19] + (if (jO y.q.a y.q.b y.q.c y.q.d).v = 0 then 0 else 8)).toNat (Int.toNat_of_nonneg hlt);rw [Int.toNat_of_nonneg hlt] at this;rw [<- this,hfe]
end Go.Proofs.YtbhikopphamgjaaGreatDoor.Ab
