/- The filter's program does what the document's model does with a state and twenty bytes. No program is in sight. -/
import Derived.Test.YtjegdngblndkcaaGreatDoorDV13
import Derived.Test.YtjegdngblndkcaaGreatDoorDV20
import Derived.Test.YtjegdngblndkcaaGreatDoorDV10
import Derived.Test.YtjegdngblndkcaaGreatDoorDV14
namespace Go.Proofs.YtjegdngblndkcaaGreatDoor.Ab
open Go Go.RowKit Go.Proofs.YtjegdngblndkcaaGreatDoor
set_option linter.unusedVariables false
theorem abp {c b:Nat} (hc:c < 65536) (hb:b < 256):tZ c b = rE (c ^^^ (256 * b)):=by
 rw [abk hc hb]
 have e:rH = rD:=rfl
 unfold ad8 yw rE
 rw [e]
theorem Iw:∀ (l:List Nat) (c:Nat),c < 65536→(∀ b∈l,b < 256)→jd c l = dA c l
 | [],c,_,_ => by simp only [jd,dA,List.foldl_nil]
 | b :: l,c,hc,hb => by
  show jd (rE (c ^^^ (256 * b))) l = dA (tZ c b) l
  rw [abp hc (hb b (by simp))]
  exact Iw l _ (zi _) (fun x hx => hb x (by simp [hx]))
theorem abq {l:List Nat} (hb:∀ b∈l,b < 256):JV l = JW l:=by
 unfold JV JW
 rw [Iw l 65535 (by decide) hb]
theorem SV (x:Int):iH x 8 = Xi.aX x 256:=by
 unfold iH Xi.aX
 rw [show (2:Int) ^ 8 = 256 by decide]
 omega
theorem SX (x:Int):iH x 0 = Xi.aX x 1:=by
 unfold iH Xi.aX
 rw [show (2:Int) ^ 0 = 1 by decide]
 omega
theorem abr (x:Int):iH x 16 = Xi.aX x 65536:=by
 unfold iH Xi.aX
 rw [show (2:Int) ^ 16 = 65536 by decide]
 omega
theorem abt (x:Int):iH x 24 = Xi.aX x 16777216:=by
 unfold iH Xi.aX
 rw [show (2:Int) ^ 24 = 16777216 by decide]
 omega
theorem akl (x:Int):Dk x = Xi.b2 x:=by unfold Dk Xi.b2; rw [SV,SX]
theorem akm (x:Int):JR x = Xi.b4 x:=by unfold JR Xi.b4; rw [abt,abr,SV,SX]
def s7 (x:Xi.St):rX:=⟨x.q,kW x.s,kW x.f,kW x.g⟩
theorem aec {x:Int} (h:Xi.vg x):(kW x).v = x:=D7 (by unfold Xi.vg at h; unfold aC; omega)
theorem V7 {x:Xi.St} (hx:x.right) {fl:Int} (hf:0≤fl∧fl≤7) (fn:Nat) (hfn:(fn:Int) = fl + (if (jw x.q.a x.q.b x.q.c x.q.d).v = 0 then 0 else 8)) :
 FD (Ei (kW (fn:Int)) (s7 x) (Ig x.q)) = yu (x.frame fl):=by
 obtain ⟨h1,h2,h3⟩:=hx
 have hl:fn < 256:=by split at hfn <;> omega
 rw [ad6 hl,abq (SK hl _ _)]
 unfold Xi.St.frame Xi.abn Xi.OU FP s7 Ig
 simp only [akl,akm,aec h1,aec h2,aec h3]
 have e:(fl + (bif oZ x.q.a x.q.b x.q.c x.q.d then 8 else 0)).toNat = fn:=by
  unfold oZ
  by_cases hz:(jw x.q.a x.q.b x.q.c x.q.d).v = 0
  · rw [if_pos hz] at hfn
    rw [hz]
    simp
    omega
  · rw [if_neg hz] at hfn
    have:((jw x.q.a x.q.b x.q.c x.q.d).v != 0) = true:=by simp [hz]
    rw [this]
    simp
    omega
 rw [e]
 rfl
theorem akn (x0 x1 x2 x3 x4 x5 x6 x7 x8 x9 x10 x11 x12 x13 x14 x15 x16 x17 x18 x19:Nat) (hb:∀ y∈[x0,x1,x2,x3,x4,x5,x6,x7,x8,x9,x10,x11,x12,x13,x14,x15,x16,x17,x18,x19],y < 256):rG [x0,x1,x2,x3,x4,x5,x6,x7,x8,x9,x10,x11,x12,x13,x14,x15,x16,x17,x18,x19] 18 = decide (jd 65535 [x0,x1,x2,x3,x4,x5,x6,x7,x8,x9,x10,x11,x12,x13,x14,x15,x16,x17] = 256 * x18 + x19):=by
 have hf:=Iw [x0,x1,x2,x3,x4,x5,x6,x7,x8,x9,x10,x11,x12,x13,x14,x15,x16,x17] 65535 (by decide) (fun y hy => hb y (List.mem_append_left [x18,x19] hy))
 have hl:=sum_lt [x0,x1,x2,x3,x4,x5,x6,x7,x8,x9,x10,x11,x12,x13,x14,x15,x16,x17] 65535 (by decide)
 have h8:=hb x18 (by simp)
 have h9:=hb x19 (by simp)
 rw [hf] at hl ⊢
 show ((dA 65535 [x0,x1,x2,x3,x4,x5,x6,x7,x8,x9,x10,x11,x12,x13,x14,x15,x16,x17] / 256 == x18) && (dA 65535 [x0,x1,x2,x3,x4,x5,x6,x7,x8,x9,x10,x11,x12,x13,x14,x15,x16,x17] % 256 == x19)) = _
 generalize dA 65535 [x0,x1,x2,x3,x4,x5,x6,x7,x8,x9,x10,x11,x12,x13,x14,x15,x16,x17] = n at *
 rw [Bool.eq_iff_iff]
 simp
 omega
set_option maxRecDepth 100000 in
theorem YD {x:Xi.St} (hx:x.right) (x0 x1 x2 x3 x4 x5 x6 x7 x8 x9 x10 x11 x12 x13 x14 x15 x16 x17 x18 x19:Nat) (hb:∀ y∈[x0,x1,x2,x3,x4,x5,x6,x7,x8,x9,x10,x11,x12,x13,x14,x15,x16,x17,x18,x19],y < 256) :
 zI (s7 x) (kW (x0:Int)) (kW (x1:Int)) (kW (x2:Int)) (kW (x3:Int)) (kW (x4:Int)) (kW (x5:Int)) (kW (x6:Int)) (kW (x7:Int)) (kW (x8:Int)) (kW (x9:Int)) (kW (x10:Int)) (kW (x11:Int)) (kW (x12:Int)) (kW (x13:Int)) (kW (x14:Int)) (kW (x15:Int)) (kW (x16:Int)) (kW (x17:Int)) (kW (x18:Int)) (kW (x19:Int)) = s7 (x.next [x0,x1,x2,x3,x4,x5,x6,x7,x8,x9,x10,x11,x12,x13,x14,x15,x16,x17,x18,x19])∧Ih (s7 x) (kW (x0:Int)) (kW (x1:Int)) (kW (x2:Int)) (kW (x3:Int)) (kW (x4:Int)) (kW (x5:Int)) (kW (x6:Int)) (kW (x7:Int)) (kW (x8:Int)) (kW (x9:Int)) (kW (x10:Int)) (kW (x11:Int)) (kW (x12:Int)) (kW (x13:Int)) (kW (x14:Int)) (kW (x15:Int)) (kW (x16:Int)) (kW (x17:Int)) (kW (x18:Int)) (kW (x19:Int)) = yu ((x.next [x0,x1,x2,x3,x4,x5,x6,x7,x8,x9,x10,x11,x12,x13,x14,x15,x16,x17,x18,x19]).frame (Xi.kX [x0,x1,x2,x3,x4,x5,x6,x7,x8,x9,x10,x11,x12,x13,x14,x15,x16,x17,x18,x19])):=by
 have hr:=hx
 have hnr:=Xi.St.Ce hx [x0,x1,x2,x3,x4,x5,x6,x7,x8,x9,x10,x11,x12,x13,x14,x15,x16,x17,x18,x19]
 have hfl:=Xi.Eu [x0,x1,x2,x3,x4,x5,x6,x7,x8,x9,x10,x11,x12,x13,x14,x15,x16,x17,x18,x19]
 obtain ⟨q,s',f',g'⟩:=x
 obtain ⟨h1,h2,h3⟩:=hx
 obtain ⟨s,rfl⟩:∃ s:Nat,s' = (s:Int):=⟨s'.toNat,by have:0≤s':=h1.1; omega⟩
 obtain ⟨f,rfl⟩:∃ f:Nat,f' = (f:Int):=⟨f'.toNat,by have:0≤f':=h2.1; omega⟩
 obtain ⟨g,rfl⟩:∃ g:Nat,g' = (g:Int):=⟨g'.toNat,by have:0≤g':=h3.1; omega⟩
 have ks:s≤65535:=by have:=h1.2; simp at this; omega
 have kf:f≤65535:=by have:=h2.2; simp at this; omega
 have kg:g≤65535:=by have:=h3.2; simp at this; omega
 obtain ⟨e1,e2⟩:=akh q s f g x0 x1 x2 x3 x4 x5 x6 x7 x8 x9 x10 x11 x12 x13 x14 x15 x16 x17 x18 x19 hb
 show zI ⟨q,kW (s:Int),kW (f:Int),kW (g:Int)⟩ (kW (x0:Int)) (kW (x1:Int)) (kW (x2:Int)) (kW (x3:Int)) (kW (x4:Int)) (kW (x5:Int)) (kW (x6:Int)) (kW (x7:Int)) (kW (x8:Int)) (kW (x9:Int)) (kW (x10:Int)) (kW (x11:Int)) (kW (x12:Int)) (kW (x13:Int)) (kW (x14:Int)) (kW (x15:Int)) (kW (x16:Int)) (kW (x17:Int)) (kW (x18:Int)) (kW (x19:Int)) = _∧Ih ⟨q,kW (s:Int),kW (f:Int),kW (g:Int)⟩ (kW (x0:Int)) (kW (x1:Int)) (kW (x2:Int)) (kW (x3:Int)) (kW (x4:Int)) (kW (x5:Int)) (kW (x6:Int)) (kW (x7:Int)) (kW (x8:Int)) (kW (x9:Int)) (kW (x10:Int)) (kW (x11:Int)) (kW (x12:Int)) (kW (x13:Int)) (kW (x14:Int)) (kW (x15:Int)) (kW (x16:Int)) (kW (x17:Int)) (kW (x18:Int)) (kW (x19:Int)) = _
 have hok:=akn x0 x1 x2 x3 x4 x5 x6 x7 x8 x9 x10 x11 x12 x13 x14 x15 x16 x17 x18 x19 hb
 by_cases hs:jd 65535 [x0,x1,x2,x3,x4,x5,x6,x7,x8,x9,x10,x11,x12,x13,x14,x15,x16,x17] = 256 * x18 + x19
 · rw [decide_eq_true hs] at hok
   rw [if_pos hs,abe q ks kf kg] at e1
   rw [if_pos hs] at e2
   have hn:s7 (Xi.St.next ⟨q,(s:Int),(f:Int),(g:Int)⟩ [x0,x1,x2,x3,x4,x5,x6,x7,x8,x9,x10,x11,x12,x13,x14,x15,x16,x17,x18,x19]) = ⟨RJ q ⟨fC x0 x1,fC x2 x3,fC x4 x5⟩ ⟨fC x6 x7,fC x8 x9,fC x10 x11⟩ ⟨fC x12 x13,fC x14 x15,fC x16 x17⟩,kW (((s + 1) % 65536:Nat):Int),kW (f:Int),kW (((g + 1) % 65536:Nat):Int)⟩:=by
    unfold Xi.St.next
    rw [hok]
    simp only [cond_true]
    unfold s7 Xi.nextK
    simp only [Xi.agl]
    rfl
   have hfe:Xi.kX [x0,x1,x2,x3,x4,x5,x6,x7,x8,x9,x10,x11,x12,x13,x14,x15,x16,x17,x18,x19] = (if (wS (fC x6 x7) (fC x8 x9) (fC x10 x11)).v = 0 then 2 else 0) + (if (wU (fC x12 x13) (fC x14 x15) (fC x16 x17)).v = 0 then 4 else 0):=by
    unfold Xi.kX
    rw [hok]
    rfl
   refine ⟨by rw [e1,hn],?_⟩
   rw [e2,e1,← hn,SI]
   unfold JC
   have hq:(Xi.St.next ⟨q,(s:Int),(f:Int),(g:Int)⟩ [x0,x1,x2,x3,x4,x5,x6,x7,x8,x9,x10,x11,x12,x13,x14,x15,x16,x17,x18,x19]).q = (s7 (Xi.St.next ⟨q,(s:Int),(f:Int),(g:Int)⟩ [x0,x1,x2,x3,x4,x5,x6,x7,x8,x9,x10,x11,x12,x13,x14,x15,x16,x17,x18,x19])).q:=rfl
   rw [← hq]
   generalize Xi.St.next ⟨q,(s:Int),(f:Int),(g:Int)⟩ [x0,x1,x2,x3,x4,x5,x6,x7,x8,x9,x10,x11,x12,x13,x14,x15,x16,x17,x18,x19] = y at *
   have hlt:0≤Xi.kX [x0,x1,x2,x3,x4,x5,x6,x7,x8,x9,x10,x11,x12,x13,x14,x15,x16,x17,x18,x19] + (if (jw y.q.a y.q.b y.q.c y.q.d).v = 0 then 0 else 8):=by split <;> omega
   have:=V7 hnr hfl (Xi.kX [x0,x1,x2,x3,x4,x5,x6,x7,x8,x9,x10,x11,x12,x13,x14,x15,x16,x17,x18,x19] + (if (jw y.q.a y.q.b y.q.c y.q.d).v = 0 then 0 else 8)).toNat (Int.toNat_of_nonneg hlt)
   rw [Int.toNat_of_nonneg hlt] at this
   rw [← this,hfe]
 · rw [decide_eq_false hs] at hok
   rw [if_neg hs,ad3 q ks kf kg] at e1
   rw [if_neg hs] at e2
   have hn:s7 (Xi.St.next ⟨q,(s:Int),(f:Int),(g:Int)⟩ [x0,x1,x2,x3,x4,x5,x6,x7,x8,x9,x10,x11,x12,x13,x14,x15,x16,x17,x18,x19]) = ⟨q,kW (((s + 1) % 65536:Nat):Int),kW ((min (f + 1) 65535:Nat):Int),kW (g:Int)⟩:=by
    unfold Xi.St.next
    rw [hok]
    simp only [cond_false]
    unfold s7
    have:(min ((f:Int) + 1) 65535) = ((min (f + 1) 65535:Nat):Int):=by omega
    rw [this]
    rfl
   have hfe:Xi.kX [x0,x1,x2,x3,x4,x5,x6,x7,x8,x9,x10,x11,x12,x13,x14,x15,x16,x17,x18,x19] = 1:=by
    unfold Xi.kX
    rw [hok]
    rfl
   refine ⟨by rw [e1,hn],?_⟩
   rw [e2,e1,← hn,UD]
   unfold JC
   have hq:(Xi.St.next ⟨q,(s:Int),(f:Int),(g:Int)⟩ [x0,x1,x2,x3,x4,x5,x6,x7,x8,x9,x10,x11,x12,x13,x14,x15,x16,x17,x18,x19]).q = (s7 (Xi.St.next ⟨q,(s:Int),(f:Int),(g:Int)⟩ [x0,x1,x2,x3,x4,x5,x6,x7,x8,x9,x10,x11,x12,x13,x14,x15,x16,x17,x18,x19])).q:=rfl
   rw [← hq]
   generalize Xi.St.next ⟨q,(s:Int),(f:Int),(g:Int)⟩ [x0,x1,x2,x3,x4,x5,x6,x7,x8,x9,x10,x11,x12,x13,x14,x15,x16,x17,x18,x19] = y at *
   have hlt:0≤Xi.kX [x0,x1,x2,x3,x4,x5,x6,x7,x8,x9,x10,x11,x12,x13,x14,x15,x16,x17,x18,x19] + (if (jw y.q.a y.q.b y.q.c y.q.d).v = 0 then 0 else 8):=by split <;> omega
   have:=V7 hnr hfl (Xi.kX [x0,x1,x2,x3,x4,x5,x6,x7,x8,x9,x10,x11,x12,x13,x14,x15,x16,x17,x18,x19] + (if (jw y.q.a y.q.b y.q.c y.q.d).v = 0 then 0 else 8)).toNat (Int.toNat_of_nonneg hlt)
   rw [Int.toNat_of_nonneg hlt] at this
   rw [← this,hfe]
end Go.Proofs.YtjegdngblndkcaaGreatDoor.Ab
