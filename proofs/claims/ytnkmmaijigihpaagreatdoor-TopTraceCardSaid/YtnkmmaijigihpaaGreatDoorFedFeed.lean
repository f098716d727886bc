/- The filter's program does what the document's model does with a state and twenty bytes. No program is in sight. -/
import Derived.Test.YtnkmmaijigihpaaGreatDoorTT13
import Derived.Test.YtnkmmaijigihpaaGreatDoorTT20
set_option linter.unusedVariables false
namespace Go.Proofs.YtnkmmaijigihpaaGreatDoor.Ab
open Go Go.RowKit Go.Proofs.YtnkmmaijigihpaaGreatDoor
theorem ac1 {c b:Nat} (hc:c < 65536) (hb:b < 256):pG c b = rW (c ^^^ (256 * b)):=by
 rw [Oz hc hb];have e:lZ = rV:=rfl;unfold EO vV rW;rw [e]
theorem Je:∀ (l:List Nat) (c:Nat),c < 65536->(∀ b∈l,b < 256)->jv c l = bP c l
 | [],c,_,_ => by simp only [jv,bP,List.foldl_nil]
 | b :: l,c,hc,hb => by
  show jv (rW (c ^^^ (256 * b))) l = bP (pG c b) l;rw [ac1 hc (hb b (by simp))];exact Je l _ (zH _) (fun x hx => hb x (by simp [hx]))
theorem ac2 {l:List Nat} (hb:∀ b∈l,b < 256):KI l = xw l:=by
 unfold KI xw;rw [Je l 65535 (by decide) hb]
theorem UD (x:Int):jc x 8 = Xi.aI x 256:=by
 unfold jc Xi.aI;rw [show (2:Int) ^ 8 = 256 by decide];omega
theorem UE (x:Int):jc x 0 = Xi.aI x 1:=by
 unfold jc Xi.aI;rw [show (2:Int) ^ 0 = 1 by decide];omega
theorem ac3 (x:Int):jc x 16 = Xi.aI x 65536:=by
 unfold jc Xi.aI;rw [show (2:Int) ^ 16 = 65536 by decide];omega
theorem ac4 (x:Int):jc x 24 = Xi.aI x 16777216:=by
 unfold jc Xi.aI;rw [show (2:Int) ^ 24 = 16777216 by decide];omega
theorem amP (x:Int):DK x = Xi.b2 x:=by unfold DK Xi.b2; rw [UD,UE]
theorem amQ (x:Int):KF x = Xi.b4 x:=by unfold KF Xi.b4; rw [ac4,ac3,UD,UE]
def s7 (x:Xi.St):sU:=⟨x.q,kW x.s,kW x.f,kW x.g⟩
theorem afR {x:Int} (h:Xi.rZ x):(kW x).v = x:=Es (by unfold Xi.rZ at h; unfold aC; omega)
theorem XF {x:Xi.St} (hx:x.right) {fl:Int} (hf:0<=fl/\fl<=7) (fn:Nat) (hfn:(fn:Int) = fl + (if (jO x.q.a x.q.b x.q.c x.q.d).v = 0 then 0 else 8)) :
 Gq (EG (kW (fn:Int)) (s7 x) (IZ x.q)) = yM (x.frame fl):=by
 obtain ⟨h1,h2,h3⟩:=hx;have hl:fn < 256:=by split at hfn <;> omega
 rw [afJ hl,ac2 (Uo hl _ _)];unfold Xi.St.frame Xi.acX Xi.Qg Gv s7 IZ;simp only [amP,amQ,afR h1,afR h2,afR h3]
 have e:(fl + (bif jy x.q.a x.q.b x.q.c x.q.d then 8 else 0)).toNat = fn:=by
  unfold jy;by_cases hz:(jO x.q.a x.q.b x.q.c x.q.d).v = 0
  . rw [if_pos hz] at hfn
    rw [hz];simp;omega
  . rw [if_neg hz] at hfn
    have:((jO x.q.a x.q.b x.q.c x.q.d).v != 0) = true:=by simp [hz]
    rw [this];simp;omega
 rw [e];rfl
theorem amR (x0 x1 x2 x3 x4 x5 x6 x7 x8 x9 x10 x11 x12 x13 x14 x15 x16 x17 x18 x19:Nat) (hb:∀ y∈[x0,x1,x2,x3,x4,x5,x6,x7,x8,x9,x10,x11,x12,x13,x14,x15,x16,x17,x18,x19],y < 256):rX [x0,x1,x2,x3,x4,x5,x6,x7,x8,x9,x10,x11,x12,x13,x14,x15,x16,x17,x18,x19] 18 = decide (jv 65535 [x0,x1,x2,x3,x4,x5,x6,x7,x8,x9,x10,x11,x12,x13,x14,x15,x16,x17] = 256 * x18 + x19):=by
 have hf:=Je [x0,x1,x2,x3,x4,x5,x6,x7,x8,x9,x10,x11,x12,x13,x14,x15,x16,x17] 65535 (by decide) (fun y hy => hb y (List.mem_append_left [x18,x19] hy));have hl:=sum_lt [x0,x1,x2,x3,x4,x5,x6,x7,x8,x9,x10,x11,x12,x13,x14,x15,x16,x17] 65535 (by decide);have h8:=hb x18 (by simp);have h9:=hb x19 (by simp);rw [hf] at hl ⊢;show ((bP 65535 [x0,x1,x2,x3,x4,x5,x6,x7,x8,x9,x10,x11,x12,x13,x14,x15,x16,x17] / 256 == x18) && (bP 65535 [x0,x1,x2,x3,x4,x5,x6,x7,x8,x9,x10,x11,x12,x13,x14,x15,x16,x17] % 256 == x19)) = _;generalize bP 65535 [x0,x1,x2,x3,x4,x5,x6,x7,x8,x9,x10,x11,x12,x13,x14,x15,x16,x17] = n at *;rw [Bool.eq_iff_iff];simp;omega
set_option maxRecDepth 100000 in
theorem ZX {x:Xi.St} (hx:x.right) (x0 x1 x2 x3 x4 x5 x6 x7 x8 x9 x10 x11 x12 x13 x14 x15 x16 x17 x18 x19:Nat) (hb:∀ y∈[x0,x1,x2,x3,x4,x5,x6,x7,x8,x9,x10,x11,x12,x13,x14,x15,x16,x17,x18,x19],y < 256) :
 Af (s7 x) (kW (x0:Int)) (kW (x1:Int)) (kW (x2:Int)) (kW (x3:Int)) (kW (x4:Int)) (kW (x5:Int)) (kW (x6:Int)) (kW (x7:Int)) (kW (x8:Int)) (kW (x9:Int)) (kW (x10:Int)) (kW (x11:Int)) (kW (x12:Int)) (kW (x13:Int)) (kW (x14:Int)) (kW (x15:Int)) (kW (x16:Int)) (kW (x17:Int)) (kW (x18:Int)) (kW (x19:Int)) = s7 (x.next [x0,x1,x2,x3,x4,x5,x6,x7,x8,x9,x10,x11,x12,x13,x14,x15,x16,x17,x18,x19])/\I4 (s7 x) (kW (x0:Int)) (kW (x1:Int)) (kW (x2:Int)) (kW (x3:Int)) (kW (x4:Int)) (kW (x5:Int)) (kW (x6:Int)) (kW (x7:Int)) (kW (x8:Int)) (kW (x9:Int)) (kW (x10:Int)) (kW (x11:Int)) (kW (x12:Int)) (kW (x13:Int)) (kW (x14:Int)) (kW (x15:Int)) (kW (x16:Int)) (kW (x17:Int)) (kW (x18:Int)) (kW (x19:Int)) = yM ((x.next [x0,x1,x2,x3,x4,x5,x6,x7,x8,x9,x10,x11,x12,x13,x14,x15,x16,x17,x18,x19]).frame (Xi.lJ [x0,x1,x2,x3,x4,x5,x6,x7,x8,x9,x10,x11,x12,x13,x14,x15,x16,x17,x18,x19])):=by
 have hr:=hx;have hnr:=Xi.St.xA hx [x0,x1,x2,x3,x4,x5,x6,x7,x8,x9,x10,x11,x12,x13,x14,x15,x16,x17,x18,x19];have hfl:=Xi.ER [x0,x1,x2,x3,x4,x5,x6,x7,x8,x9,x10,x11,x12,x13,x14,x15,x16,x17,x18,x19];obtain ⟨q,s',f',g'⟩:=x;obtain ⟨h1,h2,h3⟩:=hx;obtain ⟨s,rfl⟩:∃ s:Nat,s' = (s:Int):=⟨s'.toNat,by have:0<=s':=h1.1; omega⟩
 obtain ⟨f,rfl⟩:∃ f:Nat,f' = (f:Int):=⟨f'.toNat,by have:0<=f':=h2.1; omega⟩
 obtain ⟨g,rfl⟩:∃ g:Nat,g' = (g:Int):=⟨g'.toNat,by have:0<=g':=h3.1; omega⟩
 have ks:s<=65535:=by have:=h1.2; simp at this; omega
 have kf:f<=65535:=by have:=h2.2; simp at this; omega
 have kg:g<=65535:=by have:=h3.2; simp at this; omega
 obtain ⟨e1,e2⟩:=amD q s f g x0 x1 x2 x3 x4 x5 x6 x7 x8 x9 x10 x11 x12 x13 x14 x15 x16 x17 x18 x19 hb;show Af ⟨q,kW (s:Int),kW (f:Int),kW (g:Int)⟩ (kW (x0:Int)) (kW (x1:Int)) (kW (x2:Int)) (kW (x3:Int)) (kW (x4:Int)) (kW (x5:Int)) (kW (x6:Int)) (kW (x7:Int)) (kW (x8:Int)) (kW (x9:Int)) (kW (x10:Int)) (kW (x11:Int)) (kW (x12:Int)) (kW (x13:Int)) (kW (x14:Int)) (kW (x15:Int)) (kW (x16:Int)) (kW (x17:Int)) (kW (x18:Int)) (kW (x19:Int)) = _/\I4 ⟨q,kW (s:Int),kW (f:Int),kW (g:Int)⟩ (kW (x0:Int)) (kW (x1:Int)) (kW (x2:Int)) (kW (x3:Int)) (kW (x4:Int)) (kW (x5:Int)) (kW (x6:Int)) (kW (x7:Int)) (kW (x8:Int)) (kW (x9:Int)) (kW (x10:Int)) (kW (x11:Int)) (kW (x12:Int)) (kW (x13:Int)) (kW (x14:Int)) (kW (x15:Int)) (kW (x16:Int)) (kW (x17:Int)) (kW (x18:Int)) (kW (x19:Int)) = _;have hok:=amR x0 x1 x2 x3 x4 x5 x6 x7 x8 x9 x10 x11 x12 x13 x14 x15 x16 x17 x18 x19 hb;by_cases hs:jv 65535 [x0,x1,x2,x3,x4,x5,x6,x7,x8,x9,x10,x11,x12,x13,x14,x15,x16,x17] = 256 * x18 + x19
 . rw [decide_eq_true hs] at hok
   rw [if_pos hs,acO q ks kf kg] at e1;rw [if_pos hs] at e2
   have hn:s7 (Xi.St.next ⟨q,(s:Int),(f:Int),(g:Int)⟩ [x0,x1,x2,x3,x4,x5,x6,x7,x8,x9,x10,x11,x12,x13,x14,x15,x16,x17,x18,x19]) = ⟨TN q ⟨gB x0 x1,gB x2 x3,gB x4 x5⟩ ⟨gB x6 x7,gB x8 x9,gB x10 x11⟩ ⟨gB x12 x13,gB x14 x15,gB x16 x17⟩,kW (((s + 1) % 65536:Nat):Int),kW (f:Int),kW (((g + 1) % 65536:Nat):Int)⟩:=by
    unfold Xi.St.next;rw [hok];simp only [cond_true];unfold s7 Xi.nextK;simp only [Xi.aip];rfl
   have hfe:Xi.lJ [x0,x1,x2,x3,x4,x5,x6,x7,x8,x9,x10,x11,x12,x13,x14,x15,x16,x17,x18,x19] = (if (xE (gB x6 x7) (gB x8 x9) (gB x10 x11)).v = 0 then 2 else 0) + (if (xG (gB x12 x13) (gB x14 x15) (gB x16 x17)).v = 0 then 4 else 0):=by
    unfold Xi.lJ;rw [hok];rfl
   refine ⟨by rw [e1,hn],?_⟩;rw [e2,e1,<- hn,Un];unfold J9;have hq:(Xi.St.next ⟨q,(s:Int),(f:Int),(g:Int)⟩ [x0,x1,x2,x3,x4,x5,x6,x7,x8,x9,x10,x11,x12,x13,x14,x15,x16,x17,x18,x19]).q = (s7 (Xi.St.next ⟨q,(s:Int),(f:Int),(g:Int)⟩ [x0,x1,x2,x3,x4,x5,x6,x7,x8,x9,x10,x11,x12,x13,x14,x15,x16,x17,x18,x19])).q:=rfl;rw [<- hq];generalize Xi.St.next ⟨q,(s:Int),(f:Int),(g:Int)⟩ [x0,x1,x2,x3,x4,x5,x6,x7,x8,x9,x10,x11,x12,x13,x14,x15,x16,x17,x18,x19] = y at *;have hlt:0<=Xi.lJ [x0,x1,x2,x3,x4,x5,x6,x7,x8,x9,x10,x11,x12,x13,x14,x15,x16,x17,x18,x19] + (if (jO y.q.a y.q.b y.q.c y.q.d).v = 0 then 0 else 8):=by split <;> omega
   have:=XF hnr hfl (Xi.lJ [x0,x1,x2,x3,x4,x5,x6,x7,x8,x9,x10,x11,x12,x13,x14,x15,x16,x17,x18,x19] + (if (jO y.q.a y.q.b y.q.c y.q.d).v = 0 then 0 else 8)).toNat (Int.toNat_of_nonneg hlt);rw [Int.toNat_of_nonneg hlt] at this;rw [<- this,hfe]
 . rw [decide_eq_false hs] at hok
   rw [if_neg hs,afG q ks kf kg] at e1;rw [if_neg hs] at e2
   have hn:s7 (Xi.St.next ⟨q,(s:Int),(f:Int),(g:Int)⟩ [x0,x1,x2,x3,x4,x5,x6,x7,x8,x9,x10,x11,x12,x13,x14,x15,x16,x17,x18,x19]) = ⟨q,kW (((s + 1) % 65536:Nat):Int),kW ((min (f + 1) 65535:Nat):Int),kW (g:Int)⟩:=by
    unfold Xi.St.next;rw [hok];simp only [cond_false];unfold s7;have:(min ((f:Int) + 1) 65535) = ((min (f + 1) 65535:Nat):Int):=by omega
    rw [this];rfl
   have hfe:Xi.lJ [x0,x1,x2,x3,x4,x5,x6,x7,x8,x9,x10,x11,x12,x13,x14,x15,x16,x17,x18,x19] = 1:=by
    unfold Xi.lJ;rw [hok];rfl
   refine ⟨by rw [e1,hn],?_⟩;rw [e2,e1,<- hn,VQ];unfold J9;have hq:(Xi.St.next ⟨q,(s:Int),(f:Int),(g:Int)⟩ [x0,x1,x2,x3,x4,x5,x6,x7,x8,x9,x10,x11,x12,x13,x14,x15,x16,x17,x18,x19]).q = (s7 (Xi.St.next ⟨q,(s:Int),(f:Int),(g:Int)⟩ [x0,x1,x2,x3,x4,x5,x6,x7,x8,x9,x10,x11,x12,x13,x14,x15,x16,x17,x18,x19])).q:=rfl;rw [<- hq];generalize Xi.St.next ⟨q,(s:Int),(f:Int),(g:Int)⟩ [x0,x1,x2,x3,x4,x5,x6,x7,x8,x9,x10,x11,x12,x13,x14,x15,x16,x17,x18,x19] = y at *;have hlt:0<=Xi.lJ [x0,x1,x2,x3,x4,x5,x6,x7,x8,x9,x10,x11,x12,x13,x14,x15,x16,x17,x18,x19] + (if (jO y.q.a y.q.b y.q.c y.q.d).v = 0 then 0 else 8):=by split <;> omega
   have:=XF hnr hfl (Xi.lJ [x0,x1,x2,x3,x4,x5,x6,x7,x8,x9,x10,x11,x12,x13,x14,x15,x16,x17,x18,x19] + (if (jO y.q.a y.q.b y.q.c y.q.d).v = 0 then 0 else 8)).toNat (Int.toNat_of_nonneg hlt);rw [Int.toNat_of_nonneg hlt] at this;rw [<- this,hfe]
end Go.Proofs.YtnkmmaijigihpaaGreatDoor.Ab
