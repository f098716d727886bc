/- The filter's program does what the document's model does with a state and twenty bytes. No program is in sight. -/
import Derived.Test.YtjmojlhnmkjdkaaGreatDoorFR13
import Derived.Test.YtjmojlhnmkjdkaaGreatDoorFR20
set_option linter.unusedVariables false
namespace Go.Proofs.YtjmojlhnmkjdkaaGreatDoor.Ab
open Go Go.RowKit Go.Proofs.YtjmojlhnmkjdkaaGreatDoor
theorem agG {c b:Nat} (hc:c < 65536) (hb:b < 256):zF c b=uZ (c ^^^ (256 * b)):=by
 rw [Ru hc hb];have e:oq=uY:=rfl;unfold Il yA uZ;rw [e]
theorem LV:∀ (l:List Nat) (c:Nat),c < 65536->(∀ b∈l,b < 256)->ku c l=jk c l
 | [],c,_,_=>by simp only [ku,jk,List.foldl_nil]
 | b :: l,c,hc,hb=>by
  show ku (uZ (c ^^^ (256 * b))) l=jk (zF c b) l;rw [agG hc (hb b (by simp))];exact LV l _ (Cc _) (fun x hx=>hb x (by simp [hx]))
theorem agH {l:List Nat} (hb:∀ b∈l,b < 256):Oo l=rM l:=by
 unfold Oo rM;rw [LV l 65535 (by decide) hb]
theorem XW (x:Int):jO x 8=Xi.bn x 256:=by
 unfold jO Xi.bn;rw [show (2:Int) ^ 8=256 by decide];omega
theorem XY (x:Int):jO x 0=Xi.bn x 1:=by
 unfold jO Xi.bn;rw [show (2:Int) ^ 0=1 by decide];omega
theorem agI (x:Int):jO x 16=Xi.bn x 65536:=by
 unfold jO Xi.bn;rw [show (2:Int) ^ 16=65536 by decide];omega
theorem agJ (x:Int):jO x 24=Xi.bn x 16777216:=by
 unfold jO Xi.bn;rw [show (2:Int) ^ 24=16777216 by decide];omega
theorem arV (x:Int):Gs x=Xi.b2 x:=by unfold Gs Xi.b2; rw [XW,XY]
theorem arW (x:Int):Ol x=Xi.b4 x:=by unfold Ol Xi.b4; rw [agJ,agI,XW,XY]
def s7 (x:Xi.St):vG:=⟨x.q,kW x.s,kW x.f,kW x.g⟩
theorem ajT {x:Int} (h:Xi.iI x):(kW x).v=x:=jq (by unfold Xi.iI at h; unfold aB; omega)
theorem aaL {x:Xi.St} (hx:x.right) {fl:Int} (hf:0<=fl/\fl<=7) (fn:Nat) (hfn:(fn:Int)=fl+(if (kU x.q.a x.q.b x.q.c x.q.d).v=0 then 0 else 8)) :
 Jp (H_ (kW (fn:Int)) (s7 x) (Lj x.q))=yK (x.frame fl):=by
 obtain ⟨h1,h2,h3⟩:=hx;have hl:fn < 256:=by split at hfn<;>omega
 rw [ai0 hl,agH (W_ hl _ _)];unfold Xi.St.frame Xi.agp Xi.Jz Jv s7 Lj;simp only [arV,arW,ajT h1,ajT h2,ajT h3]
 have e:(fl+(bif iP x.q.a x.q.b x.q.c x.q.d then 8 else 0)).toNat=fn:=by
  unfold iP;by_cases hz:(kU x.q.a x.q.b x.q.c x.q.d).v=0
  . rw [if_pos hz] at hfn
    rw [hz];simp;omega
  . rw [if_neg hz] at hfn
    have:((kU x.q.a x.q.b x.q.c x.q.d).v != 0)=true:=by simp [hz]
    rw [this];simp;omega
 rw [e];rfl
theorem arX (x0 x1 x2 x3 x4 x5 x6 x7 x8 x9 x10 x11 x12 x13 x14 x15 x16 x17 x18 x19:Nat) (hb:∀ y∈[x0,x1,x2,x3,x4,x5,x6,x7,x8,x9,x10,x11,x12,x13,x14,x15,x16,x17,x18,x19],y < 256):u_ [x0,x1,x2,x3,x4,x5,x6,x7,x8,x9,x10,x11,x12,x13,x14,x15,x16,x17,x18,x19] 18=decide (ku 65535 [x0,x1,x2,x3,x4,x5,x6,x7,x8,x9,x10,x11,x12,x13,x14,x15,x16,x17]=256 * x18+x19):=by
 have hf:=LV [x0,x1,x2,x3,x4,x5,x6,x7,x8,x9,x10,x11,x12,x13,x14,x15,x16,x17] 65535 (by decide) (fun y hy=>hb y (List.mem_append_left [x18,x19] hy));have hl:=sum_lt [x0,x1,x2,x3,x4,x5,x6,x7,x8,x9,x10,x11,x12,x13,x14,x15,x16,x17] 65535 (by decide);have h8:=hb x18 (by simp);have h9:=hb x19 (by simp);rw [hf] at hl ⊢;show ((jk 65535 [x0,x1,x2,x3,x4,x5,x6,x7,x8,x9,x10,x11,x12,x13,x14,x15,x16,x17] / 256==x18) && (jk 65535 [x0,x1,x2,x3,x4,x5,x6,x7,x8,x9,x10,x11,x12,x13,x14,x15,x16,x17] % 256==x19))=_;generalize jk 65535 [x0,x1,x2,x3,x4,x5,x6,x7,x8,x9,x10,x11,x12,x13,x14,x15,x16,x17]=n at *;rw [Bool.eq_iff_iff];simp;omega
set_option maxRecDepth 100000 in
theorem OL {x:Xi.St} (hx:x.right) (x0 x1 x2 x3 x4 x5 x6 x7 x8 x9 x10 x11 x12 x13 x14 x15 x16 x17 x18 x19:Nat) (hb:∀ y∈[x0,x1,x2,x3,x4,x5,x6,x7,x8,x9,x10,x11,x12,x13,x14,x15,x16,x17,x18,x19],y < 256) :
 Dj (s7 x) (kW (x0:Int)) (kW (x1:Int)) (kW (x2:Int)) (kW (x3:Int)) (kW (x4:Int)) (kW (x5:Int)) (kW (x6:Int)) (kW (x7:Int)) (kW (x8:Int)) (kW (x9:Int)) (kW (x10:Int)) (kW (x11:Int)) (kW (x12:Int)) (kW (x13:Int)) (kW (x14:Int)) (kW (x15:Int)) (kW (x16:Int)) (kW (x17:Int)) (kW (x18:Int)) (kW (x19:Int))=s7 (x.next [x0,x1,x2,x3,x4,x5,x6,x7,x8,x9,x10,x11,x12,x13,x14,x15,x16,x17,x18,x19])/\Ll (s7 x) (kW (x0:Int)) (kW (x1:Int)) (kW (x2:Int)) (kW (x3:Int)) (kW (x4:Int)) (kW (x5:Int)) (kW (x6:Int)) (kW (x7:Int)) (kW (x8:Int)) (kW (x9:Int)) (kW (x10:Int)) (kW (x11:Int)) (kW (x12:Int)) (kW (x13:Int)) (kW (x14:Int)) (kW (x15:Int)) (kW (x16:Int)) (kW (x17:Int)) (kW (x18:Int)) (kW (x19:Int))=yK ((x.next [x0,x1,x2,x3,x4,x5,x6,x7,x8,x9,x10,x11,x12,x13,x14,x15,x16,x17,x18,x19]).frame (Xi.iq [x0,x1,x2,x3,x4,x5,x6,x7,x8,x9,x10,x11,x12,x13,x14,x15,x16,x17,x18,x19])):=by
 have hr:=hx;have hnr:=Xi.St.FU hx [x0,x1,x2,x3,x4,x5,x6,x7,x8,x9,x10,x11,x12,x13,x14,x15,x16,x17,x18,x19];have hfl:=Xi.Bj [x0,x1,x2,x3,x4,x5,x6,x7,x8,x9,x10,x11,x12,x13,x14,x15,x16,x17,x18,x19];obtain ⟨q,s',f',g'⟩:=x;obtain ⟨h1,h2,h3⟩:=hx;obtain ⟨s,rfl⟩:∃ s:Nat,s'=(s:Int):=⟨s'.toNat,by have:0<=s':=h1.1; omega⟩
 obtain ⟨f,rfl⟩:∃ f:Nat,f'=(f:Int):=⟨f'.toNat,by have:0<=f':=h2.1; omega⟩
 obtain ⟨g,rfl⟩:∃ g:Nat,g'=(g:Int):=⟨g'.toNat,by have:0<=g':=h3.1; omega⟩
 have ks:s<=65535:=by have:=h1.2; simp at this; omega
 have kf:f<=65535:=by have:=h2.2; simp at this; omega
 have kg:g<=65535:=by have:=h3.2; simp at this; omega
 obtain ⟨e1,e2⟩:=aqQ q s f g x0 x1 x2 x3 x4 x5 x6 x7 x8 x9 x10 x11 x12 x13 x14 x15 x16 x17 x18 x19 hb;show Dj ⟨q,kW (s:Int),kW (f:Int),kW (g:Int)⟩ (kW (x0:Int)) (kW (x1:Int)) (kW (x2:Int)) (kW (x3:Int)) (kW (x4:Int)) (kW (x5:Int)) (kW (x6:Int)) (kW (x7:Int)) (kW (x8:Int)) (kW (x9:Int)) (kW (x10:Int)) (kW (x11:Int)) (kW (x12:Int)) (kW (x13:Int)) (kW (x14:Int)) (kW (x15:Int)) (kW (x16:Int)) (kW (x17:Int)) (kW (x18:Int)) (kW (x19:Int))=_/\Ll ⟨q,kW (s:Int),kW (f:Int),kW (g:Int)⟩ (kW (x0:Int)) (kW (x1:Int)) (kW (x2:Int)) (kW (x3:Int)) (kW (x4:Int)) (kW (x5:Int)) (kW (x6:Int)) (kW (x7:Int)) (kW (x8:Int)) (kW (x9:Int)) (kW (x10:Int)) (kW (x11:Int)) (kW (x12:Int)) (kW (x13:Int)) (kW (x14:Int)) (kW (x15:Int)) (kW (x16:Int)) (kW (x17:Int)) (kW (x18:Int)) (kW (x19:Int))=_;have hok:=arX x0 x1 x2 x3 x4 x5 x6 x7 x8 x9 x10 x11 x12 x13 x14 x15 x16 x17 x18 x19 hb;by_cases hs:ku 65535 [x0,x1,x2,x3,x4,x5,x6,x7,x8,x9,x10,x11,x12,x13,x14,x15,x16,x17]=256 * x18+x19
 . rw [decide_eq_true hs] at hok
   rw [if_pos hs,afR q ks kf kg] at e1;rw [if_pos hs] at e2
   have hn:s7 (Xi.St.next ⟨q,(s:Int),(f:Int),(g:Int)⟩ [x0,x1,x2,x3,x4,x5,x6,x7,x8,x9,x10,x11,x12,x13,x14,x15,x16,x17,x18,x19])=⟨Wp q ⟨iC x0 x1,iC x2 x3,iC x4 x5⟩ ⟨iC x6 x7,iC x8 x9,iC x10 x11⟩ ⟨iC x12 x13,iC x14 x15,iC x16 x17⟩,kW (((s+1) % 65536:Nat):Int),kW (f:Int),kW (((g+1) % 65536:Nat):Int)⟩:=by
    unfold Xi.St.next;rw [hok];simp only [cond_true];unfold s7 Xi.nextK;simp only [Xi.aU];rfl
   have hfe:Xi.iq [x0,x1,x2,x3,x4,x5,x6,x7,x8,x9,x10,x11,x12,x13,x14,x15,x16,x17,x18,x19]=(if (nX (iC x6 x7) (iC x8 x9) (iC x10 x11)).v=0 then 2 else 0)+(if (nY (iC x12 x13) (iC x14 x15) (iC x16 x17)).v=0 then 4 else 0):=by
    unfold Xi.iq;rw [hok];rfl
   refine ⟨by rw [e1,hn],?_⟩;rw [e2,e1,<- hn,W9];unfold NU;have hq:(Xi.St.next ⟨q,(s:Int),(f:Int),(g:Int)⟩ [x0,x1,x2,x3,x4,x5,x6,x7,x8,x9,x10,x11,x12,x13,x14,x15,x16,x17,x18,x19]).q=(s7 (Xi.St.next ⟨q,(s:Int),(f:Int),(g:Int)⟩ [x0,x1,x2,x3,x4,x5,x6,x7,x8,x9,x10,x11,x12,x13,x14,x15,x16,x17,x18,x19])).q:=rfl;rw [<- hq];generalize Xi.St.next ⟨q,(s:Int),(f:Int),(g:Int)⟩ [x0,x1,x2,x3,x4,x5,x6,x7,x8,x9,x10,x11,x12,x13,x14,x15,x16,x17,x18,x19]=y at *;have hlt:0<=Xi.iq [x0,x1,x2,x3,x4,x5,x6,x7,x8,x9,x10,x11,x12,x13,x14,x15,x16,x17,x18,x19]+(if (kU y.q.a y.q.b y.q.c y.q.d).v=0 then 0 else 8):=by split<;>omega
   have:=aaL hnr hfl (Xi.iq [x0,x1,x2,x3,x4,x5,x6,x7,x8,x9,x10,x11,x12,x13,x14,x15,x16,x17,x18,x19]+(if (kU y.q.a y.q.b y.q.c y.q.d).v=0 then 0 else 8)).toNat (Int.toNat_of_nonneg hlt);rw [Int.toNat_of_nonneg hlt] at this;rw [<- this,hfe]
 . rw [decide_eq_false hs] at hok
   rw [if_neg hs,aiX q ks kf kg] at e1;rw [if_neg hs] at e2
   have hn:s7 (Xi.St.next ⟨q,(s:Int),(f:Int),(g:Int)⟩ [x0,x1,x2,x3,x4,x5,x6,x7,x8,x9,x10,x11,x12,x13,x14,x15,x16,x17,x18,x19])=⟨q,kW (((s+1) % 65536:Nat):Int),kW ((min (f+1) 65535:Nat):Int),kW (g:Int)⟩:=by
    unfold Xi.St.next;rw [hok];simp only [cond_false];unfold s7;have:(min ((f:Int)+1) 65535)=((min (f+1) 65535:Nat):Int):=by omega
    rw [this];rfl
   have hfe:Xi.iq [x0,x1,x2,x3,x4,x5,x6,x7,x8,x9,x10,x11,x12,x13,x14,x15,x16,x17,x18,x19]=1:=by
    unfold Xi.iq;rw [hok];rfl
   refine ⟨by rw [e1,hn],?_⟩;rw [e2,e1,<- hn,YU];unfold NU;have hq:(Xi.St.next ⟨q,(s:Int),(f:Int),(g:Int)⟩ [x0,x1,x2,x3,x4,x5,x6,x7,x8,x9,x10,x11,x12,x13,x14,x15,x16,x17,x18,x19]).q=(s7 (Xi.St.next ⟨q,(s:Int),(f:Int),(g:Int)⟩ [x0,x1,x2,x3,x4,x5,x6,x7,x8,x9,x10,x11,x12,x13,x14,x15,x16,x17,x18,x19])).q:=rfl;rw [<- hq];generalize Xi.St.next ⟨q,(s:Int),(f:Int),(g:Int)⟩ [x0,x1,x2,x3,x4,x5,x6,x7,x8,x9,x10,x11,x12,x13,x14,x15,x16,x17,x18,x19]=y at *;have hlt:0<=Xi.iq [x0,x1,x2,x3,x4,x5,x6,x7,x8,x9,x10,x11,x12,x13,x14,x15,x16,x17,x18,x19]+(if (kU y.q.a y.q.b y.q.c y.q.d).v=0 then 0 else 8):=by split<;>omega
   have:=aaL hnr hfl (Xi.iq [x0,x1,x2,x3,x4,x5,x6,x7,x8,x9,x10,x11,x12,x13,x14,x15,x16,x17,x18,x19]+(if (kU y.q.a y.q.b y.q.c y.q.d).v=0 then 0 else 8)).toNat (Int.toNat_of_nonneg hlt);rw [Int.toNat_of_nonneg hlt] at this;rw [<- this,hfe]
