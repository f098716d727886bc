/- Texts of this claim, side by side: NmK, Ks2, MakA, MakB, MakC. -/
import Derived.Test.YtnkmmaijigihpaaGreatDoorKs
import Derived.Lib.ItoaLen
set_option linter.unusedVariables false
namespace Go.Proofs.YtnkmmaijigihpaaGreatDoor
namespace Ab
open Go Go.Proofs.YtnkmmaijigihpaaGreatDoor
theorem qP {u:Nat} (h:u < 10):Lib.decDigits u = [UInt8.ofNat (48 + u)]:=Lib.decDigits_one h
theorem xC {u:Nat} (h:¬ u < 10):Lib.decDigits u = Lib.decDigits (u / 10) ++ [UInt8.ofNat (48 + u % 10)]:=by rw [Lib.decDigits,dif_neg h]
theorem abb (u:Nat):Lib.decDigits u≠[]:=by
 by_cases h:u < 10
 . rw [qP h]; simp
 . rw [xC h]; simp
theorem Wy {a b:Nat} (ha:a < 10) (hb:b < 10) (h:UInt8.ofNat (48 + a) = UInt8.ofNat (48 + b)):a = b:=by
 have:=congrArg UInt8.toNat h;simp only [UInt8.toNat_ofNat'] at this;omega
theorem WA:∀ (u v:Nat),Lib.decDigits u = Lib.decDigits v->u = v:=by
 intro u
 induction u using Nat.strongRecOn with
 | ind u ih =>
  intro v h;by_cases hu:u < 10
  . by_cases hv:v < 10
    . rw [qP hu,qP hv] at h
      injection h with h _;exact Wy hu hv h
    . rw [qP hu,xC hv] at h
      have:=congrArg List.length h;simp at this;exact absurd this (abb _)
  . by_cases hv:v < 10
    . rw [xC hu,qP hv] at h
      have:=congrArg List.length h;simp at this;exact absurd this (abb _)
    . rw [xC hu,xC hv] at h
      obtain ⟨h1,h2⟩:=List.append_inj' h rfl;have e1:=ih (u / 10) (by omega) (v / 10) h1;injection h2 with h2 _;have e2:=Wy (by omega) (by omega) h2;omega
theorem NR:∀ (u:Nat),(Lib.decDigits u).all jT = true:=by
 intro u
 induction u using Nat.strongRecOn with
 | ind u ih =>
  have key:∀ d,d < 10->jT (UInt8.ofNat (48 + d)) = true:=by decide
  by_cases hu:u < 10
  . rw [qP hu]
    show (jT _ && true) = true;rw [key u hu];rfl
  . rw [xC hu,List.all_append,ih (u / 10) (by omega)]
    show (true && (jT _ && true)) = true;rw [key (u % 10) (by omega)];rfl
theorem AU {u:Nat} (h:u < 1000000):(Lib.decDigits u).length<=21:=by
 have:=Lib.itoa_length_le (u:Int) (by omega) (by omega);rwa [Lib.itoa_nonneg] at this
theorem agz {u:Nat} (h:u < 1000000):oD (gJ u) = true:=by
 unfold oD gJ mJ;rw [Lib.itoa_nonneg];have:=AU h;simp only [Bool.and_eq_true,decide_eq_true_eq];exact ⟨⟨by omega,by decide⟩,NR u⟩
theorem anP {u:Nat} (h:u < 1000000):oD (iw u) = true:=by
 unfold oD iw mJ;rw [Lib.itoa_nonneg];have:=AU h;simp only [Bool.and_eq_true,decide_eq_true_eq];exact ⟨⟨by omega,by decide⟩,NR u⟩
theorem abd {u v:Nat} (h:gJ u = gJ v):u = v:=by
 unfold gJ mJ at h;rw [Lib.itoa_nonneg,Lib.itoa_nonneg] at h;injection h with _ h;exact WA u v h
theorem abe {u v:Nat} (h:iw u = iw v):u = v:=by
 unfold iw mJ at h;rw [Lib.itoa_nonneg,Lib.itoa_nonneg] at h;injection h with _ h;exact WA u v h
def Cm:List (Nat × Nat)->Nat->Option Nat
 | [],_ => none
 | (i,a) :: l,j => bif Nat.beq i j then some a else Cm l j
def Ec (defs:List (Nat × Nat)):List (Nat × Nat)->Option (List (Nat × Nat))
 | [] => some []
 | (j,p) :: l => match Cm defs j with
  | none => none
  | some t => match Ec defs l with
   | none => none
   | some r => some ((p,t) :: r)
def uZ (p:Nat × Nat):Nm × Int:=(iw p.1,(p.2:Int))
def Ry (p:Nat × Nat):Int × Int:=((p.1:Int),(p.2:Int))
theorem LQ (j:Nat):∀ (l:List (Nat × Nat)),fH (l.map uZ) (iw j) = (Cm l j).map fun a => (a:Int)
 | [] => rfl
 | (i,a) :: l => by
  have ih:=LQ j l;unfold fH at ih ⊢;simp only [List.map_cons,List.find?_cons,Cm];by_cases e:i = j
  . subst e
    have:Nat.beq i i = true:=Xi.beq_iff.2 rfl;rw [this];simp [uZ]
  . have h1 : Nat.beq i j = false := by
     cases h:Nat.beq i j with
     | false => rfl
     | true => exact absurd (Xi.beq_iff.1 h) e
    have h2:((uZ (i,a)).1 == iw j) = false:=by
     simp only [uZ,beq_eq_false_iff_ne];exact fun h => e (abe h)
    rw [h1,h2];exact ih
theorem abf (defs:List (Nat × Nat)):∀ (uses fx:List (Nat × Nat)),Ec defs uses = some fx->lC (defs.map uZ) (uses.map uZ) = .ok (fx.map Ry)
 | [],fx,h => by
  unfold Ec at h;injection h with h;subst h;rfl
 | (j,p) :: l,fx,h => by
  unfold Ec at h
  cases hf:Cm defs j with
  | none => rw [hf] at h; cases h
  | some t =>
   rw [hf] at h;simp only [] at h
   cases hr:Ec defs l with
   | none => rw [hr] at h; cases h
   | some r =>
    rw [hr] at h;injection h with h;subst h;have ih:=abf defs l r hr
    have e:fH (defs.map uZ) (uZ (j,p)).1 = some (t:Int):=by
     show fH _ (iw j) = _;rw [LQ,hf];rfl
    show (match fH (defs.map uZ) (uZ (j,p)).1 with
     | none => Except.error (uZ (j,p)).1
     | some t => match lC (defs.map uZ) (l.map uZ) with
      | .error e => .error e
      | .ok l => .ok (((uZ (j,p)).2,t) :: l)) = _
    rw [e,ih];rfl
def Rz (s:KS):Option (List Int):=match Ec s.rd.reverse s.ru.reverse with
 | some fx => bif Nat.ble s.rc.length 16384 then some (rJ (fx.map Ry) s.rc.reverse) else none
 | none => none
theorem ajQ {s:KS} {l:List Int} (h:Rz s = some l):Iz s.bm = (l,[],0):=by
 unfold Rz at h
 cases hf:Ec s.rd.reverse s.ru.reverse with
 | none => rw [hf] at h; cases h
 | some fx =>
  rw [hf] at h;simp only [] at h
  cases hb:Nat.ble s.rc.length 16384 with
  | false => rw [hb] at h; cases h
  | true =>
   rw [hb] at h;injection h with h;subst h;have hb:=Xi.aY.1 hb;have hx:=abf _ _ _ hf;unfold Iz;rw [show s.bm.defs = s.rd.reverse.map uZ from rfl,show s.bm.uses = s.ru.reverse.map uZ from rfl];rw [hx];simp only [];rw [if_neg (by show ¬ 16384 < s.rc.reverse.length; rw [List.length_reverse]; omega)];rfl
end Ab

namespace Ab
open Go Go.Proofs.YtnkmmaijigihpaaGreatDoor Xi
def fB {β:Type}:Bool->(Bool->β)->β
 | true,k => k true
 | false,k => k false
theorem anQ {β:Type} (b:Bool) (k:Bool->β):fB b k = k b:=by cases b <;> rfl
def KS.can (s:KS) (n:Nat):Bool:=Nat.ble (s.used + n) 2048 && (Nat.ble s.names 99990 && Nat.ble s.nc 799980)
section
variable {β:Type}
def opR (s:KS) (op a b:Nat) (no:β) (k:Nat->KS->β):β:=bif s.can 1 && (Nat.ble 1 op && (Nat.ble op 30 && (Nat.blt a s.used && Nat.blt b s.used))) then (match s with
 | ⟨rc,nc,rd,ru,rr,used,rs,names,data,cons,rt,nt,depth,ri,ro⟩ =>
  fB (iY ⟨rc,nc,rd,ru,rr,used,rs,names,data,cons,rt,nt,depth,ri,ro⟩ a || iY ⟨rc,nc,rd,ru,rr,used,rs,names,data,cons,rt,nt,depth,ri,ro⟩ b) fun sec =>
  fN (used + 1) fun used' => fN (names + 1) fun names' => Tr.iU 20 rs used (some sec) fun rs' =>
  bif Nat.ble op 23 then fN (nc + 4) fun nc' => k used ⟨⟨35,3,0,0,used⟩ :: ⟨op,3,1,2,0⟩ :: ⟨34,2,0,0,b⟩ :: ⟨34,1,0,0,a⟩ :: rc,nc',rd,ru,(names',1,sec) :: rr,used',rs',names',data,cons,rt,nt,depth,ri,ro⟩
  else fN (nc + 3) fun nc' => k used ⟨⟨35,3,0,0,used⟩ :: ⟨op,3,1,0,0⟩ :: ⟨34,1,0,0,a⟩ :: rc,nc',rd,ru,(names',1,sec) :: rr,used',rs',names',data,cons,rt,nt,depth,ri,ro⟩) else no
def PV (s:KS) (v:Nat) (no:β) (k:Nat->KS->β):β:=bif s.can 1 && Nat.ble v 2048 then (match s with
 | ⟨rc,nc,rd,ru,rr,used,rs,names,data,cons,rt,nt,depth,ri,ro⟩ =>
  fN (used + 1) fun used' => fN (names + 1) fun names' => Tr.iU 20 rs used (some true) fun rs' => fN (nc + 2) fun nc' =>
  k used ⟨⟨35,1,0,0,used⟩ :: ⟨34,1,0,0,v⟩ :: rc,nc',rd,ru,(names',1,true) :: rr,used',rs',names',data,cons,rt,nt,depth,ri,ro⟩) else no
def aen (s:KS) (c v:Nat) (no:β) (k:KS->β):β:=bif s.can 0 && (Nat.ble v 2048 && Nat.ble c 2048) then (match s with
 | ⟨rc,nc,rd,ru,rr,used,rs,names,data,cons,rt,nt,depth,ri,ro⟩ => fN (nc + 2) fun nc' =>
  k ⟨⟨35,1,0,0,c⟩ :: ⟨34,1,0,0,v⟩ :: rc,nc',rd,ru,rr,used,rs,names,data,cons,rt,nt,depth,ri,ro⟩) else no
def RD (s:KS) (n:Int) (no:β) (k:Nat->KS->β):β:=bif s.can 1 then (match s with
 | ⟨rc,nc,rd,ru,rr,used,rs,names,data,cons,rt,nt,depth,ri,ro⟩ => match wU cons n with
  | some a => fN a fun a => k a ⟨rc,nc,rd,ru,rr,used,rs,names,data,cons,rt,nt,depth,ri,ro⟩
  | none => fN (used + 1) fun used' => fN (names + 1) fun names' => Tr.iU 20 rs used (some false) fun rs' =>
   k used ⟨rc,nc,rd,ru,(names',1,false) :: rr,used',rs',names',(used,n) :: data,(n,used) :: cons,rt,nt,depth,ri,ro⟩) else no
def aeo (s:KS) (n:Nat) (no:β) (k:KS->β):β:=bif s.can 1 && (Nat.ble 1 n && (Nat.ble n 32767 && Nat.ble s.depth 10)) then (match s with
 | ⟨rc,nc,rd,ru,rr,used,rs,names,data,cons,rt,nt,depth,ri,ro⟩ =>
  fN (used + 1) fun used' => fN (names + 1) fun names' => fN (names' + 1) fun names2 => Tr.iU 20 rs used (some false) fun rs' => fN (nc + 2) fun nc2 => fN (nc + 3) fun nc' => fN (8 + 2 * depth) fun c => fN (9 + 2 * depth) fun l => fN (depth + 1) fun depth' =>
  k ⟨⟨35,c,0,0,used⟩ :: ⟨31,l,0,0,n⟩ :: ⟨31,c,0,0,0⟩ :: rc,nc',(names2,nc2) :: rd,ru,(names',1,false) :: rr,used',rs',names2,data,cons,rt,nt,depth',ri,ro⟩) else no
def aep (s:KS) (depth:Nat) (name:Nat) (no:β) (k:KS->β):β:=bif Nat.beq s.depth (depth + 1) && Nat.ble s.nc 799980 then (match s with
 | ⟨rc,nc,rd,ru,rr,used,rs,names,data,cons,rt,nt,_,ri,ro⟩ => fN (nc + 2) fun nc' => fN (nc + 1) fun nc1 => fN (8 + 2 * depth) fun c => fN (9 + 2 * depth) fun l => fN name fun name =>
  k ⟨⟨38,c,l,0,0⟩ :: ⟨31,c,c,0,1⟩ :: rc,nc',rd,(name,nc1) :: ru,rr,used,rs,names,data,cons,rt,nt,depth,ri,ro⟩) else no
theorem jo {γ:Type} {c:Bool} {x:Option γ} {y:γ} (h:(bif c then x else none) = some y):c = true/\x = some y:=by
 cases c with
 | true => exact ⟨rfl,h⟩
 | false => cases h
end
section
variable {γ:Type} {y:γ}
theorem ajS {s:KS} {op a b:Nat} {k:Nat->KS->Option γ} (h:opR s op a b none k = some y):s.can 1 = true/\1<=op/\op<=30/\a < s.used/\b < s.used/\k s.used (s.op op a b) = some y:=by
 unfold opR at h;obtain ⟨hc,h⟩:=jo h;simp only [Bool.and_eq_true,aY,aJ] at hc;obtain ⟨h1,h2,h3,h4,h5⟩:=hc;refine ⟨h1,h2,h3,h4,h5,?_⟩;obtain ⟨rc,nc,rd,ru,rr,used,rs,names,data,cons,rt,nt,depth,ri,ro⟩:=s;simp only [anQ,cZ,dS] at h
 have e:m_ (iY ⟨rc,nc,rd,ru,rr,used,rs,names,data,cons,rt,nt,depth,ri,ro⟩ a || iY ⟨rc,nc,rd,ru,rr,used,rs,names,data,cons,rt,nt,depth,ri,ro⟩ b) 1 used rs = Tr.set 20 rs used (some (iY ⟨rc,nc,rd,ru,rr,used,rs,names,data,cons,rt,nt,depth,ri,ro⟩ a || iY ⟨rc,nc,rd,ru,rr,used,rs,names,data,cons,rt,nt,depth,ri,ro⟩ b)):=by
  unfold m_;rw [dS];rfl
 by_cases h23:op<=23
 . rw [show Nat.ble op 23 = true from aY.2 h23] at h
   simp only [cond_true] at h;rw [<- e] at h;rw [<- h];unfold KS.op;simp only [h23,if_true];rfl
 . rw [show Nat.ble op 23 = false from by cases hb:Nat.ble op 23 with | false => rfl | true => exact absurd (aY.1 hb) h23] at h
   simp only [cond_false] at h;rw [<- e] at h;rw [<- h];unfold KS.op;simp only [h23,if_false];rfl
theorem FQ (b:Bool) (a:Nat) (t:Tr Bool):m_ b 1 a t = Tr.set 20 t a (some b):=by
 unfold m_;rw [dS];rfl
theorem RF {s:KS} {v:Nat} {k:Nat->KS->Option γ} (h:PV s v none k = some y):s.can 1 = true/\v<=2048/\k s.used (s.cell v) = some y:=by
 unfold PV at h;obtain ⟨hc,h⟩:=jo h;simp only [Bool.and_eq_true,aY] at hc;refine ⟨hc.1,hc.2,?_⟩;obtain ⟨rc,nc,rd,ru,rr,used,rs,names,data,cons,rt,nt,depth,ri,ro⟩:=s;simp only [cZ,dS,<- FQ] at h;exact h
theorem ahK {s:KS} {c v:Nat} {k:KS->Option γ} (h:aen s c v none k = some y):s.can 0 = true/\v<=2048/\c<=2048/\k (s.set c v) = some y:=by
 unfold aen at h;obtain ⟨hc,h⟩:=jo h;simp only [Bool.and_eq_true,aY] at hc;refine ⟨hc.1,hc.2.1,hc.2.2,?_⟩;obtain ⟨rc,nc,rd,ru,rr,used,rs,names,data,cons,rt,nt,depth,ri,ro⟩:=s;simp only [cZ] at h;exact h
theorem abg {s:KS} {n:Int} {k:Nat->KS->Option γ} (h:RD s n none k = some y):s.can 1 = true/\k (s.const n).1 (s.const n).2 = some y:=by
 unfold RD at h;obtain ⟨hc,h⟩:=jo h;refine ⟨hc,?_⟩;obtain ⟨rc,nc,rd,ru,rr,used,rs,names,data,cons,rt,nt,depth,ri,ro⟩:=s;simp only [] at h;unfold KS.const
 cases hf:wU cons n with
 | some a => simp only [hf,cZ] at h ⊢; exact h
 | none =>
  simp only [hf,cZ,dS,<- FQ] at h ⊢;exact h
theorem ahL {s:KS} {n:Nat} {k:KS->Option γ} (h:aeo s n none k = some y):s.can 1 = true/\1<=n/\n<=32767/\s.depth<=10/\k (s.DV n) = some y:=by
 unfold aeo at h;obtain ⟨hc,h⟩:=jo h;simp only [Bool.and_eq_true,aY] at hc;refine ⟨hc.1,hc.2.1,hc.2.2.1,hc.2.2.2,?_⟩;obtain ⟨rc,nc,rd,ru,rr,used,rs,names,data,cons,rt,nt,depth,ri,ro⟩:=s;simp only [cZ,dS,<- FQ] at h;exact h
theorem ahM {s:KS} {d name:Nat} {k:KS->Option γ} (h:aep s d name none k = some y):s.depth = d + 1/\s.nc<=799980/\k (s.fin name) = some y:=by
 unfold aep at h;obtain ⟨hc,h⟩:=jo h;simp only [Bool.and_eq_true,aY,beq_iff] at hc;refine ⟨hc.1,hc.2,?_⟩;obtain ⟨rc,nc,rd,ru,rr,used,rs,names,data,cons,rt,nt,depth,ri,ro⟩:=s;have hd:depth = d + 1:=hc.1;subst hd;simp only [cZ] at h;unfold KS.fin;rw [show 8 + 2 * d = 6 + 2 * (d + 1) by omega,show 9 + 2 * d = 7 + 2 * (d + 1) by omega] at h;exact h
end
end Ab

namespace Ab
open Go Go.Proofs.YtnkmmaijigihpaaGreatDoor Xi
section
variable {β:Type}
def xP:List Int->Nat->List (Nat × Int)->(List (Nat × Int)->β)->β
 | [],_,d,k => k d
 | x :: l,a,d,k => fN (a + 1) fun a' => xP l a' ((a,x) :: d) k
def SC (b:Bool):Nat->Nat->Tr Bool->(Tr Bool->β)->β
 | 0,_,t,k => k t
 | n + 1,a,t,k => Tr.iU 20 t a (some b) fun t' => fN (a + 1) fun a' => SC b n a' t' k
def PX:List Int->Bool
 | [] => true
 | x :: l => (Lit.int .i32 x).wf && PX l
def SE (s:KS) (l:List Int) (no:β) (k:Nat->KS->β):β:=bif s.can l.length && (Nat.ble 1 l.length && PX l) then (match s with
 | ⟨rc,nc,rd,ru,rr,used,rs,names,data,cons,rt,nt,depth,ri,ro⟩ =>
  fN l.length fun n => fN (used + n) fun used' => fN (names + 1) fun names' => fN (nt + 1) fun nt' => SC false n used rs fun rs' => xP l used data fun data' =>
  k nt ⟨rc,nc,rd,ru,(names',n,false) :: rr,used',rs',names',data',cons,used :: rt,nt',depth,ri,ro⟩) else no
def atR (s:KS) (t i:Nat) (no:β) (k:Nat->KS->β):β:=bif s.can 1 && Nat.ble i 2048 then (match s with
 | ⟨rc,nc,rd,ru,rr,used,rs,names,data,cons,rt,nt,depth,ri,ro⟩ => match nth rt.reverse t with
  | some a => bif Nat.ble a 2048 then (fN a fun a => fN (used + 1) fun used' => fN (names + 1) fun names' => Tr.iU 20 rs used (some true) fun rs' => fN (nc + 3) fun nc' =>
   k used ⟨⟨35,2,0,0,used⟩ :: ⟨34,2,1,0,a⟩ :: ⟨34,1,0,0,i⟩ :: rc,nc',rd,ru,(names',1,true) :: rr,used',rs',names',data,cons,rt,nt,depth,ri,ro⟩) else no
  | none => no) else no
theorem WM:∀ (l:List Int) (a:Nat) (d:List (Nat × Int)) (k:List (Nat × Int)->β),xP l a d k = k (oK l a d)
 | [],a,d,k => rfl
 | x :: l,a,d,k => by
  unfold xP;rw [cZ,WM l];rfl
theorem L9 (b:Bool):∀ (n a:Nat) (t:Tr Bool) (k:Tr Bool->β),SC b n a t k = k (m_ b n a t)
 | 0,a,t,k => rfl
 | n + 1,a,t,k => by
  unfold SC m_;simp only [dS,cZ];exact L9 b n _ _ k
theorem Oe:∀ {l:List Int},PX l = true->∀ x∈l,(Lit.int .i32 x).wf = true
 | [],_,x,hx => by simp at hx
 | y :: l,h,x,hx => by
  unfold PX at h;simp only [Bool.and_eq_true] at h;rcases List.mem_cons.1 hx with rfl | hx
  . exact h.1
  . exact Oe h.2 x hx
end
section
variable {γ:Type} {y:γ}
theorem abR {s:KS} {l:List Int} {k:Nat->KS->Option γ} (h:SE s l none k = some y):s.can l.length = true/\1<=l.length/\(∀ x∈l,(Lit.int .i32 x).wf = true)/\k s.nt (s.table l) = some y:=by
 unfold SE at h;obtain ⟨hc,h⟩:=jo h;simp only [Bool.and_eq_true,aY] at hc;refine ⟨hc.1,hc.2.1,Oe hc.2.2,?_⟩;obtain ⟨rc,nc,rd,ru,rr,used,rs,names,data,cons,rt,nt,depth,ri,ro⟩:=s;simp only [cZ,L9,WM] at h;exact h
theorem ak7 {s:KS} {t i:Nat} {k:Nat->KS->Option γ} (h:atR s t i none k = some y):s.can 1 = true/\i<=2048/\∃ a,s.rt.reverse[t]? = some a/\a<=2048/\k s.used (s.at_ t i) = some y:=by
 unfold atR at h;obtain ⟨hc,h⟩:=jo h;simp only [Bool.and_eq_true,aY] at hc;refine ⟨hc.1,hc.2,?_⟩;obtain ⟨rc,nc,rd,ru,rr,used,rs,names,data,cons,rt,nt,depth,ri,ro⟩:=s;simp only [oh] at h;show ∃ a,rt.reverse[t]? = some a/\_
 cases hr:rt.reverse[t]? with
 | none => rw [hr] at h; cases h
 | some a =>
  rw [hr] at h;simp only [] at h;obtain ⟨ha,h⟩:=jo h;refine ⟨a,rfl,aY.1 ha,?_⟩;simp only [cZ,dS,<- FQ] at h;unfold KS.at_;simp only [KS.load,KS.ins,List.getD_eq_getElem?_getD,hr,Option.getD_some];exact h
end
end Ab

namespace Ab
open Go Go.Proofs.YtnkmmaijigihpaaGreatDoor Xi
section
variable {β:Type}
def Zb:List Nat->Nat->List aO->Nat->(List aO->Nat->β)->β
 | [],_,rc,nc,k => k rc nc
 | v :: l,a,rc,nc,k => fN (a + 1) fun a' => fN (nc + 2) fun nc' => Zb l a' (⟨35,1,0,0,a⟩ :: ⟨34,1,0,0,v⟩ :: rc) nc' k
def PY:List Nat->Bool
 | [] => true
 | v :: l => Nat.ble v 2048 && PY l
def Zc (s:KS) (l:List Nat) (no:β) (k:Nat->KS->β):β:=bif s.can l.length && (Nat.ble 1 l.length && (PY l && Nat.ble (s.nc + 2 * l.length) 799980)) then (match s with
 | ⟨rc,nc,rd,ru,rr,used,rs,names,data,cons,rt,nt,depth,ri,ro⟩ =>
  fN l.length fun n => fN (used + n) fun used' => fN (names + 1) fun names' => fN (nt + 1) fun nt' => SC true n used rs fun rs' => Zb l used rc nc fun rc' nc' =>
  k nt ⟨rc',nc',rd,ru,(names',n,true) :: rr,used',rs',names',data,cons,used :: rt,nt',depth,ri,ro⟩) else no
def jZ:List Nat->Nat->List aO->List aO
 | [],_,rc => rc
 | v :: l,a,rc => jZ l (a + 1) (⟨35,1,0,0,a⟩ :: ⟨34,1,0,0,v⟩ :: rc)
theorem WO:∀ (l:List Nat) (a:Nat) (rc:List aO) (nc:Nat) (k:List aO->Nat->β),Zb l a rc nc k = k (jZ l a rc) (nc + 2 * l.length)
 | [],a,rc,nc,k => rfl
 | v :: l,a,rc,nc,k => by
  unfold Zb;rw [cZ,cZ,WO l];show k _ (nc + 2 + 2 * l.length) = k _ (nc + 2 * (l.length + 1));rw [show nc + 2 + 2 * l.length = nc + 2 * (l.length + 1) by omega];rfl
theorem yF:∀ (l:List Nat) (a:Nat) (s:KS),pF l a s = { s with rc:=jZ l a s.rc,nc:=s.nc + 2 * l.length }
 | [],a,s => rfl
 | v :: l,a,s => by
  show pF l (a + 1) (s.set a v) = _;rw [yF l];show KS.mk _ (s.nc + 1 + 1 + 2 * l.length) _ _ _ _ _ _ _ _ _ _ _ _ _ = KS.mk _ (s.nc + 2 * (l.length + 1)) _ _ _ _ _ _ _ _ _ _ _ _ _;rw [show s.nc + 1 + 1 + 2 * l.length = s.nc + 2 * (l.length + 1) by omega];rfl
theorem Oh:∀ {l:List Nat},PY l = true->∀ v∈l,v<=2048
 | [],_,v,hv => by simp at hv
 | y :: l,h,v,hv => by
  unfold PY at h;simp only [Bool.and_eq_true,aY] at h;rcases List.mem_cons.1 hv with rfl | hv
  . exact h.1
  . exact Oh h.2 v hv
end
section
variable {γ:Type} {y:γ}
theorem aeN {s:KS} {l:List Nat} {k:Nat->KS->Option γ} (h:Zc s l none k = some y):s.can l.length = true/\1<=l.length/\(∀ v∈l,v<=2048)/\s.nc + 2 * l.length<=799980/\k s.nt (s.fill l) = some y:=by
 unfold Zc at h;obtain ⟨hc,h⟩:=jo h;simp only [Bool.and_eq_true,aY] at hc;refine ⟨hc.1,hc.2.1,Oh hc.2.2.1,hc.2.2.2,?_⟩;obtain ⟨rc,nc,rd,ru,rr,used,rs,names,data,cons,rt,nt,depth,ri,ro⟩:=s;simp only [cZ,L9,WO] at h;unfold KS.fill;rw [yF];exact h
end
end Ab
end Go.Proofs.YtnkmmaijigihpaaGreatDoor
