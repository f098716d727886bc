/- The filter's program does what the document's model does with a state and twenty bytes. No program is in sight. -/
import Derived.Test.YtjcgiddgafjdpaaGreatDoorFR13
import Derived.Test.YtjcgiddgafjdpaaGreatDoorFR20
import Derived.Test.YtjcgiddgafjdpaaGreatDoorFR10
import Derived.Test.YtjcgiddgafjdpaaGreatDoorFR14
namespace Go.Proofs.YtjcgiddgafjdpaaGreatDoor.Ab
open Go Go.RowKit Go.Proofs.YtjcgiddgafjdpaaGreatDoor
set_option linter.unusedVariables false
theorem byte_step {c b:Nat} (hc:c < 65536) (hb:b < 256):stepN c b = byteN8 (c ^^^ (256 * b)):=by
 rw [step_bits hc hb]
 have e:bit1 = bitN:=rfl
 unfold bit8 bit4 byteN8
 rw [e]
theorem sum_fold:∀ (l:List Nat) (c:Nat),c < 65536→(∀ b∈l,b < 256)→sumN c l = foldN c l
 | [],c,_,_ => by simp only [sumN,foldN,List.foldl_nil]
 | b :: l,c,hc,hb => by
  show sumN (byteN8 (c ^^^ (256 * b))) l = foldN (stepN c b) l
  rw [byte_step hc (hb b (by simp))]
  exact sum_fold l _ (byteN8_lt _) (fun x hx => hb x (by simp [hx]))
theorem seal_fold {l:List Nat} (hb:∀ b∈l,b < 256):sealB l = sealN l:=by
 unfold sealB sealN
 rw [sum_fold l 65535 (by decide) hb]
theorem byteI_n8 (x:Int):byteI x 8 = Xi.byteN x 256:=by
 unfold byteI Xi.byteN
 rw [show (2:Int) ^ 8 = 256 by decide]
 omega
theorem byteI_n0 (x:Int):byteI x 0 = Xi.byteN x 1:=by
 unfold byteI Xi.byteN
 rw [show (2:Int) ^ 0 = 1 by decide]
 omega
theorem byteI_n16 (x:Int):byteI x 16 = Xi.byteN x 65536:=by
 unfold byteI Xi.byteN
 rw [show (2:Int) ^ 16 = 65536 by decide]
 omega
theorem byteI_n24 (x:Int):byteI x 24 = Xi.byteN x 16777216:=by
 unfold byteI Xi.byteN
 rw [show (2:Int) ^ 24 = 16777216 by decide]
 omega
theorem by2_b2 (x:Int):by2 x = Xi.b2 x:=by unfold by2 Xi.b2; rw [byteI_n8,byteI_n0]
theorem by4_b4 (x:Int):by4 x = Xi.b4 x:=by unfold by4 Xi.b4; rw [byteI_n24,byteI_n16,byteI_n8,byteI_n0]
def s7 (x:Xi.St):St7:=⟨x.q,kW x.s,kW x.f,kW x.g⟩
theorem kv16 {x:Int} (h:Xi.in16 x):(kW x).v = x:=kW_v (by unfold Xi.in16 at h; unfold In32; omega)
theorem frame_n {x:Xi.St} (hx:x.right) {fl:Int} (hf:0≤fl∧fl≤7) (fn:Nat) (hfn:(fn:Int) = fl + (if (lockedW x.q.a x.q.b x.q.c x.q.d).v = 0 then 0 else 8)) :
 sealW (frameH (kW (fn:Int)) (s7 x) (anglesOf x.q)) = kws (x.frame fl):=by
 obtain ⟨h1,h2,h3⟩:=hx
 have hl:fn < 256:=by split at hfn <;> omega
 rw [frame_kw hl,seal_fold (headN_lt hl _ _)]
 unfold Xi.St.frame Xi.frameN Xi.bodyN headN s7 anglesOf
 simp only [by2_b2,by4_b4,kv16 h1,kv16 h2,kv16 h3]
 have e:(fl + (bif lockB x.q.a x.q.b x.q.c x.q.d then 8 else 0)).toNat = fn:=by
  unfold lockB
  by_cases hz:(lockedW x.q.a x.q.b x.q.c x.q.d).v = 0
  · rw [if_pos hz] at hfn
    rw [hz]
    simp
    omega
  · rw [if_neg hz] at hfn
    have:((lockedW x.q.a x.q.b x.q.c x.q.d).v != 0) = true:=by simp [hz]
    rw [this]
    simp
    omega
 rw [e]
 rfl
theorem ok_iff (x0 x1 x2 x3 x4 x5 x6 x7 x8 x9 x10 x11 x12 x13 x14 x15 x16 x17 x18 x19:Nat) (hb:∀ y∈[x0,x1,x2,x3,x4,x5,x6,x7,x8,x9,x10,x11,x12,x13,x14,x15,x16,x17,x18,x19],y < 256):sumOk [x0,x1,x2,x3,x4,x5,x6,x7,x8,x9,x10,x11,x12,x13,x14,x15,x16,x17,x18,x19] 18 = decide (sumN 65535 [x0,x1,x2,x3,x4,x5,x6,x7,x8,x9,x10,x11,x12,x13,x14,x15,x16,x17] = 256 * x18 + x19):=by
 have hf:=sum_fold [x0,x1,x2,x3,x4,x5,x6,x7,x8,x9,x10,x11,x12,x13,x14,x15,x16,x17] 65535 (by decide) (fun y hy => hb y (List.mem_append_left [x18,x19] hy))
 have hl:=sum_lt [x0,x1,x2,x3,x4,x5,x6,x7,x8,x9,x10,x11,x12,x13,x14,x15,x16,x17] 65535 (by decide)
 have h8:=hb x18 (by simp)
 have h9:=hb x19 (by simp)
 rw [hf] at hl ⊢
 show ((foldN 65535 [x0,x1,x2,x3,x4,x5,x6,x7,x8,x9,x10,x11,x12,x13,x14,x15,x16,x17] / 256 == x18) && (foldN 65535 [x0,x1,x2,x3,x4,x5,x6,x7,x8,x9,x10,x11,x12,x13,x14,x15,x16,x17] % 256 == x19)) = _
 generalize foldN 65535 [x0,x1,x2,x3,x4,x5,x6,x7,x8,x9,x10,x11,x12,x13,x14,x15,x16,x17] = n at *
 rw [Bool.eq_iff_iff]
 simp
 omega
set_option maxRecDepth 100000 in
theorem feed_words {x:Xi.St} (hx:x.right) (x0 x1 x2 x3 x4 x5 x6 x7 x8 x9 x10 x11 x12 x13 x14 x15 x16 x17 x18 x19:Nat) (hb:∀ y∈[x0,x1,x2,x3,x4,x5,x6,x7,x8,x9,x10,x11,x12,x13,x14,x15,x16,x17,x18,x19],y < 256) :
 fedS (s7 x) (kW (x0:Int)) (kW (x1:Int)) (kW (x2:Int)) (kW (x3:Int)) (kW (x4:Int)) (kW (x5:Int)) (kW (x6:Int)) (kW (x7:Int)) (kW (x8:Int)) (kW (x9:Int)) (kW (x10:Int)) (kW (x11:Int)) (kW (x12:Int)) (kW (x13:Int)) (kW (x14:Int)) (kW (x15:Int)) (kW (x16:Int)) (kW (x17:Int)) (kW (x18:Int)) (kW (x19:Int)) = s7 (x.next [x0,x1,x2,x3,x4,x5,x6,x7,x8,x9,x10,x11,x12,x13,x14,x15,x16,x17,x18,x19])∧fedF (s7 x) (kW (x0:Int)) (kW (x1:Int)) (kW (x2:Int)) (kW (x3:Int)) (kW (x4:Int)) (kW (x5:Int)) (kW (x6:Int)) (kW (x7:Int)) (kW (x8:Int)) (kW (x9:Int)) (kW (x10:Int)) (kW (x11:Int)) (kW (x12:Int)) (kW (x13:Int)) (kW (x14:Int)) (kW (x15:Int)) (kW (x16:Int)) (kW (x17:Int)) (kW (x18:Int)) (kW (x19:Int)) = kws ((x.next [x0,x1,x2,x3,x4,x5,x6,x7,x8,x9,x10,x11,x12,x13,x14,x15,x16,x17,x18,x19]).frame (Xi.flN [x0,x1,x2,x3,x4,x5,x6,x7,x8,x9,x10,x11,x12,x13,x14,x15,x16,x17,x18,x19])):=by
 have hr:=hx
 have hnr:=Xi.St.next_right hx [x0,x1,x2,x3,x4,x5,x6,x7,x8,x9,x10,x11,x12,x13,x14,x15,x16,x17,x18,x19]
 have hfl:=Xi.flN_in [x0,x1,x2,x3,x4,x5,x6,x7,x8,x9,x10,x11,x12,x13,x14,x15,x16,x17,x18,x19]
 obtain ⟨q,s',f',g'⟩:=x
 obtain ⟨h1,h2,h3⟩:=hx
 obtain ⟨s,rfl⟩:∃ s:Nat,s' = (s:Int):=⟨s'.toNat,by have:0≤s':=h1.1; omega⟩
 obtain ⟨f,rfl⟩:∃ f:Nat,f' = (f:Int):=⟨f'.toNat,by have:0≤f':=h2.1; omega⟩
 obtain ⟨g,rfl⟩:∃ g:Nat,g' = (g:Int):=⟨g'.toNat,by have:0≤g':=h3.1; omega⟩
 have ks:s≤65535:=by have:=h1.2; simp at this; omega
 have kf:f≤65535:=by have:=h2.2; simp at this; omega
 have kg:g≤65535:=by have:=h3.2; simp at this; omega
 obtain ⟨e1,e2⟩:=fed_ok q s f g x0 x1 x2 x3 x4 x5 x6 x7 x8 x9 x10 x11 x12 x13 x14 x15 x16 x17 x18 x19 hb
 show fedS ⟨q,kW (s:Int),kW (f:Int),kW (g:Int)⟩ (kW (x0:Int)) (kW (x1:Int)) (kW (x2:Int)) (kW (x3:Int)) (kW (x4:Int)) (kW (x5:Int)) (kW (x6:Int)) (kW (x7:Int)) (kW (x8:Int)) (kW (x9:Int)) (kW (x10:Int)) (kW (x11:Int)) (kW (x12:Int)) (kW (x13:Int)) (kW (x14:Int)) (kW (x15:Int)) (kW (x16:Int)) (kW (x17:Int)) (kW (x18:Int)) (kW (x19:Int)) = _∧fedF ⟨q,kW (s:Int),kW (f:Int),kW (g:Int)⟩ (kW (x0:Int)) (kW (x1:Int)) (kW (x2:Int)) (kW (x3:Int)) (kW (x4:Int)) (kW (x5:Int)) (kW (x6:Int)) (kW (x7:Int)) (kW (x8:Int)) (kW (x9:Int)) (kW (x10:Int)) (kW (x11:Int)) (kW (x12:Int)) (kW (x13:Int)) (kW (x14:Int)) (kW (x15:Int)) (kW (x16:Int)) (kW (x17:Int)) (kW (x18:Int)) (kW (x19:Int)) = _
 have hok:=ok_iff x0 x1 x2 x3 x4 x5 x6 x7 x8 x9 x10 x11 x12 x13 x14 x15 x16 x17 x18 x19 hb
 by_cases hs:sumN 65535 [x0,x1,x2,x3,x4,x5,x6,x7,x8,x9,x10,x11,x12,x13,x14,x15,x16,x17] = 256 * x18 + x19
 · rw [decide_eq_true hs] at hok
   rw [if_pos hs,next_good q ks kf kg] at e1
   rw [if_pos hs] at e2
   have hn:s7 (Xi.St.next ⟨q,(s:Int),(f:Int),(g:Int)⟩ [x0,x1,x2,x3,x4,x5,x6,x7,x8,x9,x10,x11,x12,x13,x14,x15,x16,x17,x18,x19]) = ⟨sensOf q ⟨twoW x0 x1,twoW x2 x3,twoW x4 x5⟩ ⟨twoW x6 x7,twoW x8 x9,twoW x10 x11⟩ ⟨twoW x12 x13,twoW x14 x15,twoW x16 x17⟩,kW (((s + 1) % 65536:Nat):Int),kW (f:Int),kW (((g + 1) % 65536:Nat):Int)⟩:=by
    unfold Xi.St.next
    rw [hok]
    simp only [cond_true]
    unfold s7 Xi.nextK
    simp only [Xi.kW_self]
    rfl
   have hfe:Xi.flN [x0,x1,x2,x3,x4,x5,x6,x7,x8,x9,x10,x11,x12,x13,x14,x15,x16,x17,x18,x19] = (if (sensedA (twoW x6 x7) (twoW x8 x9) (twoW x10 x11)).v = 0 then 2 else 0) + (if (sensedM (twoW x12 x13) (twoW x14 x15) (twoW x16 x17)).v = 0 then 4 else 0):=by
    unfold Xi.flN
    rw [hok]
    rfl
   refine ⟨by rw [e1,hn],?_⟩
   rw [e2,e1,← hn,flagsOf_good]
   unfold frameW
   have hq:(Xi.St.next ⟨q,(s:Int),(f:Int),(g:Int)⟩ [x0,x1,x2,x3,x4,x5,x6,x7,x8,x9,x10,x11,x12,x13,x14,x15,x16,x17,x18,x19]).q = (s7 (Xi.St.next ⟨q,(s:Int),(f:Int),(g:Int)⟩ [x0,x1,x2,x3,x4,x5,x6,x7,x8,x9,x10,x11,x12,x13,x14,x15,x16,x17,x18,x19])).q:=rfl
   rw [← hq]
   generalize Xi.St.next ⟨q,(s:Int),(f:Int),(g:Int)⟩ [x0,x1,x2,x3,x4,x5,x6,x7,x8,x9,x10,x11,x12,x13,x14,x15,x16,x17,x18,x19] = y at *
   have hlt:0≤Xi.flN [x0,x1,x2,x3,x4,x5,x6,x7,x8,x9,x10,x11,x12,x13,x14,x15,x16,x17,x18,x19] + (if (lockedW y.q.a y.q.b y.q.c y.q.d).v = 0 then 0 else 8):=by split <;> omega
   have:=frame_n hnr hfl (Xi.flN [x0,x1,x2,x3,x4,x5,x6,x7,x8,x9,x10,x11,x12,x13,x14,x15,x16,x17,x18,x19] + (if (lockedW y.q.a y.q.b y.q.c y.q.d).v = 0 then 0 else 8)).toNat (Int.toNat_of_nonneg hlt)
   rw [Int.toNat_of_nonneg hlt] at this
   rw [← this,hfe]
 · rw [decide_eq_false hs] at hok
   rw [if_neg hs,next_bad q ks kf kg] at e1
   rw [if_neg hs] at e2
   have hn:s7 (Xi.St.next ⟨q,(s:Int),(f:Int),(g:Int)⟩ [x0,x1,x2,x3,x4,x5,x6,x7,x8,x9,x10,x11,x12,x13,x14,x15,x16,x17,x18,x19]) = ⟨q,kW (((s + 1) % 65536:Nat):Int),kW ((min (f + 1) 65535:Nat):Int),kW (g:Int)⟩:=by
    unfold Xi.St.next
    rw [hok]
    simp only [cond_false]
    unfold s7
    have:(min ((f:Int) + 1) 65535) = ((min (f + 1) 65535:Nat):Int):=by omega
    rw [this]
    rfl
   have hfe:Xi.flN [x0,x1,x2,x3,x4,x5,x6,x7,x8,x9,x10,x11,x12,x13,x14,x15,x16,x17,x18,x19] = 1:=by
    unfold Xi.flN
    rw [hok]
    rfl
   refine ⟨by rw [e1,hn],?_⟩
   rw [e2,e1,← hn,flagsOf_bad]
   unfold frameW
   have hq:(Xi.St.next ⟨q,(s:Int),(f:Int),(g:Int)⟩ [x0,x1,x2,x3,x4,x5,x6,x7,x8,x9,x10,x11,x12,x13,x14,x15,x16,x17,x18,x19]).q = (s7 (Xi.St.next ⟨q,(s:Int),(f:Int),(g:Int)⟩ [x0,x1,x2,x3,x4,x5,x6,x7,x8,x9,x10,x11,x12,x13,x14,x15,x16,x17,x18,x19])).q:=rfl
   rw [← hq]
   generalize Xi.St.next ⟨q,(s:Int),(f:Int),(g:Int)⟩ [x0,x1,x2,x3,x4,x5,x6,x7,x8,x9,x10,x11,x12,x13,x14,x15,x16,x17,x18,x19] = y at *
   have hlt:0≤Xi.flN [x0,x1,x2,x3,x4,x5,x6,x7,x8,x9,x10,x11,x12,x13,x14,x15,x16,x17,x18,x19] + (if (lockedW y.q.a y.q.b y.q.c y.q.d).v = 0 then 0 else 8):=by split <;> omega
   have:=frame_n hnr hfl (Xi.flN [x0,x1,x2,x3,x4,x5,x6,x7,x8,x9,x10,x11,x12,x13,x14,x15,x16,x17,x18,x19] + (if (lockedW y.q.a y.q.b y.q.c y.q.d).v = 0 then 0 else 8)).toNat (Int.toNat_of_nonneg hlt)
   rw [Int.toNat_of_nonneg hlt] at this
   rw [← this,hfe]
end Go.Proofs.YtjcgiddgafjdpaaGreatDoor.Ab
