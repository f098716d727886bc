/- The filter's program does what the document's model does with a state and twenty bytes. No program is in sight. -/
import Derived.Test.YtjmojlhnmkjdkaaGreatDoorDP13
import Derived.Test.YtjmojlhnmkjdkaaGreatDoorDP20
set_option linter.unusedVariables false
namespace Go.Proofs.YtjmojlhnmkjdkaaGreatDoor.Ab
open Go Go.RowKit Go.Proofs.YtjmojlhnmkjdkaaGreatDoor
theorem ag3{c b:Nat}(hc:c<65536)(hb:b<256):rO c b=vg (c ^^^ (256*b)):=by
 rw [RP hc hb];have e:nX=u_:=rfl;unfold Iq yI vg;rw [e]
theorem MG:∀(l:List Nat) (c:Nat),c<65536->(∀ b∈l,b<256)->kC c l=bP c l
 | [],c,_,_=>by simp only [kC,bP,List.foldl_nil]
 | b::l,c,hc,hb=>by
  show kC (vg (c ^^^ (256*b))) l=bP (rO c b) l;rw [ag3 hc (hb b (by simp))];exact MG l _ (Ci _) (fun x hx=>hb x (by simp [hx]))
theorem ag4{l:List Nat}(hb:∀ b∈l,b<256):OD l=vk l:=by
 unfold OD vk;rw [MG l 65535 (by decide) hb]
theorem X_(x:Int):jM x 8=Xi.bC x 256:=by
 unfold jM Xi.bC;rw [show(2:Int) ^ 8=256 by decide];omega
theorem Ya(x:Int):jM x 0=Xi.bC x 1:=by
 unfold jM Xi.bC;rw [show(2:Int) ^ 0=1 by decide];omega
theorem ag5(x:Int):jM x 16=Xi.bC x 65536:=by
 unfold jM Xi.bC;rw [show(2:Int) ^ 16=65536 by decide];omega
theorem ag6(x:Int):jM x 24=Xi.bC x 16777216:=by
 unfold jM Xi.bC;rw [show(2:Int) ^ 24=16777216 by decide];omega
theorem asG(x:Int):Gu x=Xi.b2 x:=by unfold Gu Xi.b2; rw [X_,Ya]
theorem asH(x:Int):OB x=Xi.b4 x:=by unfold OB Xi.b4; rw [ag6,ag5,X_,Ya]
def s7 (x:Xi.St):vO:=⟨x.q,kW x.s,kW x.f,kW x.g⟩
theorem akl{x:Int}(h:Xi.iJ x):(kW x).v=x:=jl (by unfold Xi.iJ at h; unfold aB; omega)
theorem aaS{x:Xi.St}(hx:x.right){fl:Int}(hf:0<=fl/\fl<=7)(fn:Nat)(hfn:(fn:Int)=fl+(if(kQ x.q.a x.q.b x.q.c x.q.d).v=0 then 0 else 8)) :
 Jz (Ig (kW (fn:Int)) (s7 x) (LX x.q))=Bc (x.frame fl):=by
 obtain⟨h1,h2,h3⟩:=hx;have hl:fn<256:=by split at hfn<;>omega
 rw [ajq hl,ag4 (Xm hl _ _)];unfold Xi.St.frame Xi.agN Xi.JH JE s7 LX;simp only [asG,asH,akl h1,akl h2,akl h3]
 have e:(fl+(bif iR x.q.a x.q.b x.q.c x.q.d then 8 else 0)).toNat=fn:=by
  unfold iR;by_cases hz:(kQ x.q.a x.q.b x.q.c x.q.d).v=0
  . rw [if_pos hz] at hfn
    rw [hz];simp;omega
  . rw [if_neg hz] at hfn
    have:((kQ x.q.a x.q.b x.q.c x.q.d).v != 0)=true:=by simp [hz]
    rw [this];simp;omega
 rw [e];rfl
theorem asI(x0 x1 x2 x3 x4 x5 x6 x7 x8 x9 x10 x11 x12 x13 x14 x15 x16 x17 x18 x19:Nat)(hb:∀ y∈[x0,x1,x2,x3,x4,x5,x6,x7,x8,x9,x10,x11,x12,x13,x14,x15,x16,x17,x18,x19],y<256):ny [x0,x1,x2,x3,x4,x5,x6,x7,x8,x9,x10,x11,x12,x13,x14,x15,x16,x17,x18,x19] 18=decide (kC 65535 [x0,x1,x2,x3,x4,x5,x6,x7,x8,x9,x10,x11,x12,x13,x14,x15,x16,x17]=256*x18+x19):=by
 have hf:=MG [x0,x1,x2,x3,x4,x5,x6,x7,x8,x9,x10,x11,x12,x13,x14,x15,x16,x17] 65535 (by decide) (fun y hy=>hb y (List.mem_append_left [x18,x19] hy));have hl:=sum_lt [x0,x1,x2,x3,x4,x5,x6,x7,x8,x9,x10,x11,x12,x13,x14,x15,x16,x17] 65535 (by decide);have h8:=hb x18 (by simp);have h9:=hb x19 (by simp);rw [hf] at hl ⊢;show((bP 65535 [x0,x1,x2,x3,x4,x5,x6,x7,x8,x9,x10,x11,x12,x13,x14,x15,x16,x17] / 256==x18)&&(bP 65535 [x0,x1,x2,x3,x4,x5,x6,x7,x8,x9,x10,x11,x12,x13,x14,x15,x16,x17]%256==x19))=_;generalize bP 65535 [x0,x1,x2,x3,x4,x5,x6,x7,x8,x9,x10,x11,x12,x13,x14,x15,x16,x17]=n at *;rw [Bool.eq_iff_iff];simp;omega
set_option maxRecDepth 100000 in
theorem adI{x:Xi.St}(hx:x.right)(x0 x1 x2 x3 x4 x5 x6 x7 x8 x9 x10 x11 x12 x13 x14 x15 x16 x17 x18 x19:Nat)(hb:∀ y∈[x0,x1,x2,x3,x4,x5,x6,x7,x8,x9,x10,x11,x12,x13,x14,x15,x16,x17,x18,x19],y<256) :
 Dl (s7 x) (kW (x0:Int)) (kW (x1:Int)) (kW (x2:Int)) (kW (x3:Int)) (kW (x4:Int)) (kW (x5:Int)) (kW (x6:Int)) (kW (x7:Int)) (kW (x8:Int)) (kW (x9:Int)) (kW (x10:Int)) (kW (x11:Int)) (kW (x12:Int)) (kW (x13:Int)) (kW (x14:Int)) (kW (x15:Int)) (kW (x16:Int)) (kW (x17:Int)) (kW (x18:Int)) (kW (x19:Int))=s7 (x.next [x0,x1,x2,x3,x4,x5,x6,x7,x8,x9,x10,x11,x12,x13,x14,x15,x16,x17,x18,x19])/\LY (s7 x) (kW (x0:Int)) (kW (x1:Int)) (kW (x2:Int)) (kW (x3:Int)) (kW (x4:Int)) (kW (x5:Int)) (kW (x6:Int)) (kW (x7:Int)) (kW (x8:Int)) (kW (x9:Int)) (kW (x10:Int)) (kW (x11:Int)) (kW (x12:Int)) (kW (x13:Int)) (kW (x14:Int)) (kW (x15:Int)) (kW (x16:Int)) (kW (x17:Int)) (kW (x18:Int)) (kW (x19:Int))=Bc ((x.next [x0,x1,x2,x3,x4,x5,x6,x7,x8,x9,x10,x11,x12,x13,x14,x15,x16,x17,x18,x19]).frame (Xi.jT [x0,x1,x2,x3,x4,x5,x6,x7,x8,x9,x10,x11,x12,x13,x14,x15,x16,x17,x18,x19])):=by
 have hr:=hx;have hnr:=Xi.St.zG hx [x0,x1,x2,x3,x4,x5,x6,x7,x8,x9,x10,x11,x12,x13,x14,x15,x16,x17,x18,x19];have hfl:=Xi.IC [x0,x1,x2,x3,x4,x5,x6,x7,x8,x9,x10,x11,x12,x13,x14,x15,x16,x17,x18,x19];obtain⟨q,s',f',g'⟩:=x;obtain⟨h1,h2,h3⟩:=hx;obtain⟨s,rfl⟩:∃ s:Nat,s'=(s:Int):=⟨s'.toNat,by have:0<=s':=h1.1; omega⟩
 obtain⟨f,rfl⟩:∃ f:Nat,f'=(f:Int):=⟨f'.toNat,by have:0<=f':=h2.1; omega⟩
 obtain⟨g,rfl⟩:∃ g:Nat,g'=(g:Int):=⟨g'.toNat,by have:0<=g':=h3.1; omega⟩
 have ks:s<=65535:=by have:=h1.2; simp at this; omega
 have kf:f<=65535:=by have:=h2.2; simp at this; omega
 have kg:g<=65535:=by have:=h3.2; simp at this; omega
 obtain⟨e1,e2⟩:=ari q s f g x0 x1 x2 x3 x4 x5 x6 x7 x8 x9 x10 x11 x12 x13 x14 x15 x16 x17 x18 x19 hb;show Dl ⟨q,kW (s:Int),kW (f:Int),kW (g:Int)⟩ (kW (x0:Int)) (kW (x1:Int)) (kW (x2:Int)) (kW (x3:Int)) (kW (x4:Int)) (kW (x5:Int)) (kW (x6:Int)) (kW (x7:Int)) (kW (x8:Int)) (kW (x9:Int)) (kW (x10:Int)) (kW (x11:Int)) (kW (x12:Int)) (kW (x13:Int)) (kW (x14:Int)) (kW (x15:Int)) (kW (x16:Int)) (kW (x17:Int)) (kW (x18:Int)) (kW (x19:Int))=_/\LY ⟨q,kW (s:Int),kW (f:Int),kW (g:Int)⟩ (kW (x0:Int)) (kW (x1:Int)) (kW (x2:Int)) (kW (x3:Int)) (kW (x4:Int)) (kW (x5:Int)) (kW (x6:Int)) (kW (x7:Int)) (kW (x8:Int)) (kW (x9:Int)) (kW (x10:Int)) (kW (x11:Int)) (kW (x12:Int)) (kW (x13:Int)) (kW (x14:Int)) (kW (x15:Int)) (kW (x16:Int)) (kW (x17:Int)) (kW (x18:Int)) (kW (x19:Int))=_;have hok:=asI x0 x1 x2 x3 x4 x5 x6 x7 x8 x9 x10 x11 x12 x13 x14 x15 x16 x17 x18 x19 hb;by_cases hs:kC 65535 [x0,x1,x2,x3,x4,x5,x6,x7,x8,x9,x10,x11,x12,x13,x14,x15,x16,x17]=256*x18+x19
 . rw [decide_eq_true hs] at hok
   rw [if_pos hs,agf q ks kf kg] at e1;rw [if_pos hs] at e2
   have hn:s7 (Xi.St.next ⟨q,(s:Int),(f:Int),(g:Int)⟩ [x0,x1,x2,x3,x4,x5,x6,x7,x8,x9,x10,x11,x12,x13,x14,x15,x16,x17,x18,x19])=⟨WJ q ⟨iD x0 x1,iD x2 x3,iD x4 x5⟩ ⟨iD x6 x7,iD x8 x9,iD x10 x11⟩ ⟨iD x12 x13,iD x14 x15,iD x16 x17⟩,kW (((s+1)%65536:Nat):Int),kW (f:Int),kW (((g+1)%65536:Nat):Int)⟩:=by
    unfold Xi.St.next;rw [hok];simp only [cond_true];unfold s7 Xi.nextK;simp only [Xi.aQ];rfl
   have hfe:Xi.jT [x0,x1,x2,x3,x4,x5,x6,x7,x8,x9,x10,x11,x12,x13,x14,x15,x16,x17,x18,x19]=(if(nT (iD x6 x7) (iD x8 x9) (iD x10 x11)).v=0 then 2 else 0)+(if(nU (iD x12 x13) (iD x14 x15) (iD x16 x17)).v=0 then 4 else 0):=by
    unfold Xi.jT;rw [hok];rfl
   refine⟨by rw [e1,hn],?_⟩;rw [e2,e1,<- hn,Xl];unfold Oi;have hq:(Xi.St.next ⟨q,(s:Int),(f:Int),(g:Int)⟩ [x0,x1,x2,x3,x4,x5,x6,x7,x8,x9,x10,x11,x12,x13,x14,x15,x16,x17,x18,x19]).q=(s7 (Xi.St.next ⟨q,(s:Int),(f:Int),(g:Int)⟩ [x0,x1,x2,x3,x4,x5,x6,x7,x8,x9,x10,x11,x12,x13,x14,x15,x16,x17,x18,x19])).q:=rfl;rw [<- hq];generalize Xi.St.next ⟨q,(s:Int),(f:Int),(g:Int)⟩ [x0,x1,x2,x3,x4,x5,x6,x7,x8,x9,x10,x11,x12,x13,x14,x15,x16,x17,x18,x19]=y at *;have hlt:0<=Xi.jT [x0,x1,x2,x3,x4,x5,x6,x7,x8,x9,x10,x11,x12,x13,x14,x15,x16,x17,x18,x19]+(if(kQ y.q.a y.q.b y.q.c y.q.d).v=0 then 0 else 8):=by split<;>omega
   have:=aaS hnr hfl (Xi.jT [x0,x1,x2,x3,x4,x5,x6,x7,x8,x9,x10,x11,x12,x13,x14,x15,x16,x17,x18,x19]+(if(kQ y.q.a y.q.b y.q.c y.q.d).v=0 then 0 else 8)).toNat (Int.toNat_of_nonneg hlt);rw [Int.toNat_of_nonneg hlt] at this;rw [<- this,hfe]
 . rw [decide_eq_false hs] at hok
   rw [if_neg hs,ajn q ks kf kg] at e1;rw [if_neg hs] at e2
   have hn:s7 (Xi.St.next ⟨q,(s:Int),(f:Int),(g:Int)⟩ [x0,x1,x2,x3,x4,x5,x6,x7,x8,x9,x10,x11,x12,x13,x14,x15,x16,x17,x18,x19])=⟨q,kW (((s+1)%65536:Nat):Int),kW ((min (f+1) 65535:Nat):Int),kW (g:Int)⟩:=by
    unfold Xi.St.next;rw [hok];simp only [cond_false];unfold s7;have:(min ((f:Int)+1) 65535)=((min (f+1) 65535:Nat):Int):=by omega
    rw [this];rfl
   have hfe:Xi.jT [x0,x1,x2,x3,x4,x5,x6,x7,x8,x9,x10,x11,x12,x13,x14,x15,x16,x17,x18,x19]=1:=by
    unfold Xi.jT;rw [hok];rfl
   refine⟨by rw [e1,hn],?_⟩;rw [e2,e1,<- hn,Y8];unfold Oi;have hq:(Xi.St.next ⟨q,(s:Int),(f:Int),(g:Int)⟩ [x0,x1,x2,x3,x4,x5,x6,x7,x8,x9,x10,x11,x12,x13,x14,x15,x16,x17,x18,x19]).q=(s7 (Xi.St.next ⟨q,(s:Int),(f:Int),(g:Int)⟩ [x0,x1,x2,x3,x4,x5,x6,x7,x8,x9,x10,x11,x12,x13,x14,x15,x16,x17,x18,x19])).q:=rfl;rw [<- hq];generalize Xi.St.next ⟨q,(s:Int),(f:Int),(g:Int)⟩ [x0,x1,x2,x3,x4,x5,x6,x7,x8,x9,x10,x11,x12,x13,x14,x15,x16,x17,x18,x19]=y at *;have hlt:0<=Xi.jT [x0,x1,x2,x3,x4,x5,x6,x7,x8,x9,x10,x11,x12,x13,x14,x15,x16,x17,x18,x19]+(if(kQ y.q.a y.q.b y.q.c y.q.d).v=0 then 0 else 8):=by split<;>omega
   have:=aaS hnr hfl (Xi.jT [x0,x1,x2,x3,x4,x5,x6,x7,x8,x9,x10,x11,x12,x13,x14,x15,x16,x17,x18,x19]+(if(kQ y.q.a y.q.b y.q.c y.q.d).v=0 then 0 else 8)).toNat (Int.toNat_of_nonneg hlt);rw [Int.toNat_of_nonneg hlt] at this;rw [<- this,hfe]
