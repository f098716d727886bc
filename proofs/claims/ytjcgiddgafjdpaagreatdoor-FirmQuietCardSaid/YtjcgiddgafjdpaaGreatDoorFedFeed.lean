/- The filter's program does what the document's model does with a state and twenty bytes. No program is in sight. -/
import Derived.Test.YtjcgiddgafjdpaaGreatDoorFQ8
import Derived.Test.YtjcgiddgafjdpaaGreatDoorFQ20
import Derived.Test.YtjcgiddgafjdpaaGreatDoorFQ7
import Derived.Test.YtjcgiddgafjdpaaGreatDoorFQ16
namespace Go.Proofs.YtjcgiddgafjdpaaGreatDoor.Ab
open Go Go.RowKit Go.Proofs.YtjcgiddgafjdpaaGreatDoor
set_option linter.unusedVariables false
theorem acg {c b:Nat} (hc:c < 65536) (hb:b < 256):vS c b = rW (c ^^^ (256 * b)):=by
 rw [Ns hc hb]
 have e:lS = rV:=rfl
 unfold Ee vH rW
 rw [e]
theorem Ig:∀ (l:List Nat) (c:Nat),c < 65536→(∀ b∈l,b < 256)→je c l = iH c l
 | [],c,_,_ => by simp only [je,iH,List.foldl_nil]
 | b :: l,c,hc,hb => by
  show je (rW (c ^^^ (256 * b))) l = iH (vS c b) l
  rw [acg hc (hb b (by simp))]
  exact Ig l _ (yX _) (fun x hx => hb x (by simp [hx]))
theorem ach {l:List Nat} (hb:∀ b∈l,b < 256):JI l = wU l:=by
 unfold JI wU
 rw [Ig l 65535 (by decide) hb]
theorem TR (x:Int):iL x 8 = Xi.aV x 256:=by
 unfold iL Xi.aV
 rw [show (2:Int) ^ 8 = 256 by decide]
 omega
theorem TS (x:Int):iL x 0 = Xi.aV x 1:=by
 unfold iL Xi.aV
 rw [show (2:Int) ^ 0 = 1 by decide]
 omega
theorem aci (x:Int):iL x 16 = Xi.aV x 65536:=by
 unfold iL Xi.aV
 rw [show (2:Int) ^ 16 = 65536 by decide]
 omega
theorem acj (x:Int):iL x 24 = Xi.aV x 16777216:=by
 unfold iL Xi.aV
 rw [show (2:Int) ^ 24 = 16777216 by decide]
 omega
theorem ame (x:Int):CW x = Xi.b2 x:=by unfold CW Xi.b2; rw [TR,TS]
theorem amf (x:Int):JG x = Xi.b4 x:=by unfold JG Xi.b4; rw [acj,aci,TR,TS]
def s7 (x:Xi.St):r_:=⟨x.q,kW x.s,kW x.f,kW x.g⟩
theorem ae6 {x:Int} (h:Xi.vI x):(kW x).v = x:=tH (by unfold Xi.vI at h; unfold aB; omega)
theorem WV {x:Xi.St} (hx:x.right) {fl:Int} (hf:0≤fl∧fl≤7) (fn:Nat) (hfn:(fn:Int) = fl + (if (jI x.q.a x.q.b x.q.c x.q.d).v = 0 then 0 else 8)) :
 Fb (D_ (kW (fn:Int)) (s7 x) (HY x.q)) = vP (x.frame fl):=by
 obtain ⟨h1,h2,h3⟩:=hx
 have hl:fn < 256:=by split at hfn <;> omega
 rw [aeJ hl,ach (Ti hl _ _)]
 unfold Xi.St.frame Xi.acd Xi.OX Fp s7 HY
 simp only [ame,amf,ae6 h1,ae6 h2,ae6 h3]
 have e:(fl + (bif pq x.q.a x.q.b x.q.c x.q.d then 8 else 0)).toNat = fn:=by
  unfold pq
  by_cases hz:(jI x.q.a x.q.b x.q.c x.q.d).v = 0
  · rw [if_pos hz] at hfn
    rw [hz]
    simp
    omega
  · rw [if_neg hz] at hfn
    have:((jI x.q.a x.q.b x.q.c x.q.d).v != 0) = true:=by simp [hz]
    rw [this]
    simp
    omega
 rw [e]
 rfl
theorem amg (x0 x1 x2 x3 x4 x5 x6 x7 x8 x9 x10 x11 x12 x13 x14 x15 x16 x17 x18 x19:Nat) (hb:∀ y∈[x0,x1,x2,x3,x4,x5,x6,x7,x8,x9,x10,x11,x12,x13,x14,x15,x16,x17,x18,x19],y < 256):Fq [x0,x1,x2,x3,x4,x5,x6,x7,x8,x9,x10,x11,x12,x13,x14,x15,x16,x17,x18,x19] 18 = decide (je 65535 [x0,x1,x2,x3,x4,x5,x6,x7,x8,x9,x10,x11,x12,x13,x14,x15,x16,x17] = 256 * x18 + x19):=by
 have hf:=Ig [x0,x1,x2,x3,x4,x5,x6,x7,x8,x9,x10,x11,x12,x13,x14,x15,x16,x17] 65535 (by decide) (fun y hy => hb y (List.mem_append_left [x18,x19] hy))
 have hl:=sum_lt [x0,x1,x2,x3,x4,x5,x6,x7,x8,x9,x10,x11,x12,x13,x14,x15,x16,x17] 65535 (by decide)
 have h8:=hb x18 (by simp)
 have h9:=hb x19 (by simp)
 rw [hf] at hl ⊢
 show ((iH 65535 [x0,x1,x2,x3,x4,x5,x6,x7,x8,x9,x10,x11,x12,x13,x14,x15,x16,x17] / 256 == x18) && (iH 65535 [x0,x1,x2,x3,x4,x5,x6,x7,x8,x9,x10,x11,x12,x13,x14,x15,x16,x17] % 256 == x19)) = _
 generalize iH 65535 [x0,x1,x2,x3,x4,x5,x6,x7,x8,x9,x10,x11,x12,x13,x14,x15,x16,x17] = n at *
 rw [Bool.eq_iff_iff]
 simp
 omega
set_option maxRecDepth 100000 in
theorem JU {x:Xi.St} (hx:x.right) (x0 x1 x2 x3 x4 x5 x6 x7 x8 x9 x10 x11 x12 x13 x14 x15 x16 x17 x18 x19:Nat) (hb:∀ y∈[x0,x1,x2,x3,x4,x5,x6,x7,x8,x9,x10,x11,x12,x13,x14,x15,x16,x17,x18,x19],y < 256) :
 zG (s7 x) (kW (x0:Int)) (kW (x1:Int)) (kW (x2:Int)) (kW (x3:Int)) (kW (x4:Int)) (kW (x5:Int)) (kW (x6:Int)) (kW (x7:Int)) (kW (x8:Int)) (kW (x9:Int)) (kW (x10:Int)) (kW (x11:Int)) (kW (x12:Int)) (kW (x13:Int)) (kW (x14:Int)) (kW (x15:Int)) (kW (x16:Int)) (kW (x17:Int)) (kW (x18:Int)) (kW (x19:Int)) = s7 (x.next [x0,x1,x2,x3,x4,x5,x6,x7,x8,x9,x10,x11,x12,x13,x14,x15,x16,x17,x18,x19])∧H6 (s7 x) (kW (x0:Int)) (kW (x1:Int)) (kW (x2:Int)) (kW (x3:Int)) (kW (x4:Int)) (kW (x5:Int)) (kW (x6:Int)) (kW (x7:Int)) (kW (x8:Int)) (kW (x9:Int)) (kW (x10:Int)) (kW (x11:Int)) (kW (x12:Int)) (kW (x13:Int)) (kW (x14:Int)) (kW (x15:Int)) (kW (x16:Int)) (kW (x17:Int)) (kW (x18:Int)) (kW (x19:Int)) = vP ((x.next [x0,x1,x2,x3,x4,x5,x6,x7,x8,x9,x10,x11,x12,x13,x14,x15,x16,x17,x18,x19]).frame (Xi.jf [x0,x1,x2,x3,x4,x5,x6,x7,x8,x9,x10,x11,x12,x13,x14,x15,x16,x17,x18,x19])):=by
 have hr:=hx
 have hnr:=Xi.St.pz hx [x0,x1,x2,x3,x4,x5,x6,x7,x8,x9,x10,x11,x12,x13,x14,x15,x16,x17,x18,x19]
 have hfl:=Xi.Ap [x0,x1,x2,x3,x4,x5,x6,x7,x8,x9,x10,x11,x12,x13,x14,x15,x16,x17,x18,x19]
 obtain ⟨q,s',f',g'⟩:=x
 obtain ⟨h1,h2,h3⟩:=hx
 obtain ⟨s,rfl⟩:∃ s:Nat,s' = (s:Int):=⟨s'.toNat,by have:0≤s':=h1.1; omega⟩
 obtain ⟨f,rfl⟩:∃ f:Nat,f' = (f:Int):=⟨f'.toNat,by have:0≤f':=h2.1; omega⟩
 obtain ⟨g,rfl⟩:∃ g:Nat,g' = (g:Int):=⟨g'.toNat,by have:0≤g':=h3.1; omega⟩
 have ks:s≤65535:=by have:=h1.2; simp at this; omega
 have kf:f≤65535:=by have:=h2.2; simp at this; omega
 have kg:g≤65535:=by have:=h3.2; simp at this; omega
 obtain ⟨e1,e2⟩:=alz q s f g x0 x1 x2 x3 x4 x5 x6 x7 x8 x9 x10 x11 x12 x13 x14 x15 x16 x17 x18 x19 hb
 show zG ⟨q,kW (s:Int),kW (f:Int),kW (g:Int)⟩ (kW (x0:Int)) (kW (x1:Int)) (kW (x2:Int)) (kW (x3:Int)) (kW (x4:Int)) (kW (x5:Int)) (kW (x6:Int)) (kW (x7:Int)) (kW (x8:Int)) (kW (x9:Int)) (kW (x10:Int)) (kW (x11:Int)) (kW (x12:Int)) (kW (x13:Int)) (kW (x14:Int)) (kW (x15:Int)) (kW (x16:Int)) (kW (x17:Int)) (kW (x18:Int)) (kW (x19:Int)) = _∧H6 ⟨q,kW (s:Int),kW (f:Int),kW (g:Int)⟩ (kW (x0:Int)) (kW (x1:Int)) (kW (x2:Int)) (kW (x3:Int)) (kW (x4:Int)) (kW (x5:Int)) (kW (x6:Int)) (kW (x7:Int)) (kW (x8:Int)) (kW (x9:Int)) (kW (x10:Int)) (kW (x11:Int)) (kW (x12:Int)) (kW (x13:Int)) (kW (x14:Int)) (kW (x15:Int)) (kW (x16:Int)) (kW (x17:Int)) (kW (x18:Int)) (kW (x19:Int)) = _
 have hok:=amg x0 x1 x2 x3 x4 x5 x6 x7 x8 x9 x10 x11 x12 x13 x14 x15 x16 x17 x18 x19 hb
 by_cases hs:je 65535 [x0,x1,x2,x3,x4,x5,x6,x7,x8,x9,x10,x11,x12,x13,x14,x15,x16,x17] = 256 * x18 + x19
 · rw [decide_eq_true hs] at hok
   rw [if_pos hs,abW q ks kf kg] at e1
   rw [if_pos hs] at e2
   have hn:s7 (Xi.St.next ⟨q,(s:Int),(f:Int),(g:Int)⟩ [x0,x1,x2,x3,x4,x5,x6,x7,x8,x9,x10,x11,x12,x13,x14,x15,x16,x17,x18,x19]) = ⟨SE q ⟨fH x0 x1,fH x2 x3,fH x4 x5⟩ ⟨fH x6 x7,fH x8 x9,fH x10 x11⟩ ⟨fH x12 x13,fH x14 x15,fH x16 x17⟩,kW (((s + 1) % 65536:Nat):Int),kW (f:Int),kW (((g + 1) % 65536:Nat):Int)⟩:=by
    unfold Xi.St.next
    rw [hok]
    simp only [cond_true]
    unfold s7 Xi.nextK
    simp only [Xi.fG]
    rfl
   have hfe:Xi.jf [x0,x1,x2,x3,x4,x5,x6,x7,x8,x9,x10,x11,x12,x13,x14,x15,x16,x17,x18,x19] = (if (wY (fH x6 x7) (fH x8 x9) (fH x10 x11)).v = 0 then 2 else 0) + (if (wZ (fH x12 x13) (fH x14 x15) (fH x16 x17)).v = 0 then 4 else 0):=by
    unfold Xi.jf
    rw [hok]
    rfl
   refine ⟨by rw [e1,hn],?_⟩
   rw [e2,e1,← hn,Tf]
   unfold Ju
   have hq:(Xi.St.next ⟨q,(s:Int),(f:Int),(g:Int)⟩ [x0,x1,x2,x3,x4,x5,x6,x7,x8,x9,x10,x11,x12,x13,x14,x15,x16,x17,x18,x19]).q = (s7 (Xi.St.next ⟨q,(s:Int),(f:Int),(g:Int)⟩ [x0,x1,x2,x3,x4,x5,x6,x7,x8,x9,x10,x11,x12,x13,x14,x15,x16,x17,x18,x19])).q:=rfl
   rw [← hq]
   generalize Xi.St.next ⟨q,(s:Int),(f:Int),(g:Int)⟩ [x0,x1,x2,x3,x4,x5,x6,x7,x8,x9,x10,x11,x12,x13,x14,x15,x16,x17,x18,x19] = y at *
   have hlt:0≤Xi.jf [x0,x1,x2,x3,x4,x5,x6,x7,x8,x9,x10,x11,x12,x13,x14,x15,x16,x17,x18,x19] + (if (jI y.q.a y.q.b y.q.c y.q.d).v = 0 then 0 else 8):=by split <;> omega
   have:=WV hnr hfl (Xi.jf [x0,x1,x2,x3,x4,x5,x6,x7,x8,x9,x10,x11,x12,x13,x14,x15,x16,x17,x18,x19] + (if (jI y.q.a y.q.b y.q.c y.q.d).v = 0 then 0 else 8)).toNat (Int.toNat_of_nonneg hlt)
   rw [Int.toNat_of_nonneg hlt] at this
   rw [← this,hfe]
 · rw [decide_eq_false hs] at hok
   rw [if_neg hs,aeG q ks kf kg] at e1
   rw [if_neg hs] at e2
   have hn:s7 (Xi.St.next ⟨q,(s:Int),(f:Int),(g:Int)⟩ [x0,x1,x2,x3,x4,x5,x6,x7,x8,x9,x10,x11,x12,x13,x14,x15,x16,x17,x18,x19]) = ⟨q,kW (((s + 1) % 65536:Nat):Int),kW ((min (f + 1) 65535:Nat):Int),kW (g:Int)⟩:=by
    unfold Xi.St.next
    rw [hok]
    simp only [cond_false]
    unfold s7
    have:(min ((f:Int) + 1) 65535) = ((min (f + 1) 65535:Nat):Int):=by omega
    rw [this]
    rfl
   have hfe:Xi.jf [x0,x1,x2,x3,x4,x5,x6,x7,x8,x9,x10,x11,x12,x13,x14,x15,x16,x17,x18,x19] = 1:=by
    unfold Xi.jf
    rw [hok]
    rfl
   refine ⟨by rw [e1,hn],?_⟩
   rw [e2,e1,← hn,U4]
   unfold Ju
   have hq:(Xi.St.next ⟨q,(s:Int),(f:Int),(g:Int)⟩ [x0,x1,x2,x3,x4,x5,x6,x7,x8,x9,x10,x11,x12,x13,x14,x15,x16,x17,x18,x19]).q = (s7 (Xi.St.next ⟨q,(s:Int),(f:Int),(g:Int)⟩ [x0,x1,x2,x3,x4,x5,x6,x7,x8,x9,x10,x11,x12,x13,x14,x15,x16,x17,x18,x19])).q:=rfl
   rw [← hq]
   generalize Xi.St.next ⟨q,(s:Int),(f:Int),(g:Int)⟩ [x0,x1,x2,x3,x4,x5,x6,x7,x8,x9,x10,x11,x12,x13,x14,x15,x16,x17,x18,x19] = y at *
   have hlt:0≤Xi.jf [x0,x1,x2,x3,x4,x5,x6,x7,x8,x9,x10,x11,x12,x13,x14,x15,x16,x17,x18,x19] + (if (jI y.q.a y.q.b y.q.c y.q.d).v = 0 then 0 else 8):=by split <;> omega
   have:=WV hnr hfl (Xi.jf [x0,x1,x2,x3,x4,x5,x6,x7,x8,x9,x10,x11,x12,x13,x14,x15,x16,x17,x18,x19] + (if (jI y.q.a y.q.b y.q.c y.q.d).v = 0 then 0 else 8)).toNat (Int.toNat_of_nonneg hlt)
   rw [Int.toNat_of_nonneg hlt] at this
   rw [← this,hfe]
end Go.Proofs.YtjcgiddgafjdpaaGreatDoor.Ab
