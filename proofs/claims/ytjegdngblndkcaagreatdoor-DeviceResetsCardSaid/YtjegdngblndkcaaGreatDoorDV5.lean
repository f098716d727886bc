/- Texts of this claim, side by side: NmK, Ks2, MakA, MakB, MakC. -/
import Derived.Test.YtjegdngblndkcaaGreatDoorKs
import Derived.Lib.ItoaMem
import Derived.Lib.ItoaLen
/- Names with numbers: each is a name, and all are unlike. No program is in sight. -/
namespace Go.Proofs.YtjegdngblndkcaaGreatDoor.Ab
open Go Go.Proofs.YtjegdngblndkcaaGreatDoor
set_option linter.unusedVariables false
theorem qB {u:Nat} (h:u < 10):Lib.decDigits u = [UInt8.ofNat (48 + u)]:=Lib.decDigits_one h
theorem wR {u:Nat} (h:¬ u < 10):Lib.decDigits u = Lib.decDigits (u / 10) ++ [UInt8.ofNat (48 + u % 10)]:=by rw [Lib.decDigits,dif_neg h]
theorem ZG (u:Nat):Lib.decDigits u≠[]:=by
 by_cases h:u < 10
 · rw [qB h]; simp
 · rw [wR h]; simp
theorem U9 {a b:Nat} (ha:a < 10) (hb:b < 10) (h:UInt8.ofNat (48 + a) = UInt8.ofNat (48 + b)):a = b:=by
 have:=congrArg UInt8.toNat h
 simp only [UInt8.toNat_ofNat'] at this
 omega
theorem U_:∀ (u v:Nat),Lib.decDigits u = Lib.decDigits v→u = v:=by
 intro u
 induction u using Nat.strongRecOn with
 | ind u ih =>
  intro v h
  by_cases hu:u < 10
  · by_cases hv:v < 10
    · rw [qB hu,qB hv] at h
      injection h with h _
      exact U9 hu hv h
    · rw [qB hu,wR hv] at h
      have:=congrArg List.length h
      simp at this
      exact absurd this (ZG _)
  · by_cases hv:v < 10
    · rw [wR hu,qB hv] at h
      have:=congrArg List.length h
      simp at this
      exact absurd this (ZG _)
    · rw [wR hu,wR hv] at h
      obtain ⟨h1,h2⟩:=List.append_inj' h rfl
      have e1:=ih (u / 10) (by omega) (v / 10) h1
      injection h2 with h2 _
      have e2:=U9 (by omega) (by omega) h2
      omega
theorem MN:∀ (u:Nat),(Lib.decDigits u).all jC = true:=by
 intro u
 induction u using Nat.strongRecOn with
 | ind u ih =>
  have key:∀ d,d < 10→jC (UInt8.ofNat (48 + d)) = true:=by decide
  by_cases hu:u < 10
  · rw [qB hu]
    show (jC _ && true) = true
    rw [key u hu]
    rfl
  · rw [wR hu,List.all_append,ih (u / 10) (by omega)]
    show (true && (jC _ && true)) = true
    rw [key (u % 10) (by omega)]
    rfl
theorem zY {u:Nat} (h:u < 1000000):(Lib.decDigits u).length≤21:=by
 have:=Lib.itoa_length_le (u:Int) (by omega) (by omega)
 rwa [Lib.itoa_nonneg] at this
theorem aeI {u:Nat} (h:u < 1000000):nU (fH u) = true:=by
 unfold nU fH lT
 rw [Lib.itoa_nonneg]
 have:=zY h
 simp only [Bool.and_eq_true,decide_eq_true_eq]
 exact ⟨⟨by omega,by decide⟩,MN u⟩
theorem ak1 {u:Nat} (h:u < 1000000):nU (gy u) = true:=by
 unfold nU gy lT
 rw [Lib.itoa_nonneg]
 have:=zY h
 simp only [Bool.and_eq_true,decide_eq_true_eq]
 exact ⟨⟨by omega,by decide⟩,MN u⟩
theorem ZH {u v:Nat} (h:fH u = fH v):u = v:=by
 unfold fH lT at h
 rw [Lib.itoa_nonneg,Lib.itoa_nonneg] at h
 injection h with _ h
 exact U_ u v h
theorem ZI {u v:Nat} (h:gy u = gy v):u = v:=by
 unfold gy lT at h
 rw [Lib.itoa_nonneg,Lib.itoa_nonneg] at h
 injection h with _ h
 exact U_ u v h
def Bz:List (Nat × Nat)→Nat→Option Nat
 | [],_ => none
 | (i,a) :: l,j => bif Nat.beq i j then some a else Bz l j
def DL (defs:List (Nat × Nat)):List (Nat × Nat)→Option (List (Nat × Nat))
 | [] => some []
 | (j,p) :: l => match Bz defs j with
  | none => none
  | some t => match DL defs l with
   | none => none
   | some r => some ((p,t) :: r)
def uD (p:Nat × Nat):Nm × Int:=(gy p.1,(p.2:Int))
def Qm (p:Nat × Nat):Int × Int:=((p.1:Int),(p.2:Int))
theorem KL (j:Nat):∀ (l:List (Nat × Nat)),dX (l.map uD) (gy j) = (Bz l j).map fun a => (a:Int)
 | [] => rfl
 | (i,a) :: l => by
  have ih:=KL j l
  unfold dX at ih ⊢
  simp only [List.map_cons,List.find?_cons,Bz]
  by_cases e:i = j
  · subst e
    have:Nat.beq i i = true:=Xi.beq_iff.2 rfl
    rw [this]
    simp [uD]
  · have h1 : Nat.beq i j = false := by
     cases h:Nat.beq i j with
     | false => rfl
     | true => exact absurd (Xi.beq_iff.1 h) e
    have h2:((uD (i,a)).1 == gy j) = false:=by
     simp only [uD,beq_eq_false_iff_ne]
     exact fun h => e (ZI h)
    rw [h1,h2]
    exact ih
theorem ZJ (defs:List (Nat × Nat)):∀ (uses fx:List (Nat × Nat)),DL defs uses = some fx→kN (defs.map uD) (uses.map uD) = .ok (fx.map Qm)
 | [],fx,h => by
  unfold DL at h
  injection h with h
  subst h
  rfl
 | (j,p) :: l,fx,h => by
  unfold DL at h
  cases hf:Bz defs j with
  | none => rw [hf] at h; cases h
  | some t =>
   rw [hf] at h
   simp only [] at h
   cases hr:DL defs l with
   | none => rw [hr] at h; cases h
   | some r =>
    rw [hr] at h
    injection h with h
    subst h
    have ih:=ZJ defs l r hr
    have e:dX (defs.map uD) (uD (j,p)).1 = some (t:Int):=by
     show dX _ (gy j) = _
     rw [KL,hf]
     rfl
    show (match dX (defs.map uD) (uD (j,p)).1 with
     | none => Except.error (uD (j,p)).1
     | some t => match kN (defs.map uD) (l.map uD) with
      | .error e => .error e
      | .ok l => .ok (((uD (j,p)).2,t) :: l)) = _
    rw [e,ih]
    rfl
def Qn (s:KS):Option (List Int):=match DL s.rd.reverse s.ru.reverse with
 | some fx => bif Nat.ble s.rc.length 16384 then some (qQ (fx.map Qm) s.rc.reverse) else none
 | none => none
theorem ahD {s:KS} {l:List Int} (h:Qn s = some l):Hu s.bm = (l,[],0):=by
 unfold Qn at h
 cases hf:DL s.rd.reverse s.ru.reverse with
 | none => rw [hf] at h; cases h
 | some fx =>
  rw [hf] at h
  simp only [] at h
  cases hb:Nat.ble s.rc.length 16384 with
  | false => rw [hb] at h; cases h
  | true =>
   rw [hb] at h
   injection h with h
   subst h
   have hb:=Xi.aY.1 hb
   have hx:=ZJ _ _ _ hf
   unfold Hu
   rw [show s.bm.defs = s.rd.reverse.map uD from rfl,show s.bm.uses = s.ru.reverse.map uD from rfl]
   rw [hx]
   simp only []
   rw [if_neg (by show ¬ 16384 < s.rc.reverse.length; rw [List.length_reverse]; omega)]
   rfl
end Go.Proofs.YtjegdngblndkcaaGreatDoor.Ab

/- A maker's methods for the kernel: a state's parts are plain after each step. No program is in sight. -/
namespace Go.Proofs.YtjegdngblndkcaaGreatDoor.Ab
open Go Go.Proofs.YtjegdngblndkcaaGreatDoor Go.Proofs.YtjegdngblndkcaaGreatDoor.Xi
set_option linter.unusedVariables false
def fB {β:Type}:Bool→(Bool→β)→β
 | true,k => k true
 | false,k => k false
theorem ak2 {β:Type} (b:Bool) (k:Bool→β):fB b k = k b:=by cases b <;> rfl
def KS.can (s:KS) (n:Nat):Bool:=Nat.ble (s.used + n) 2048 && (Nat.ble s.names 99990 && Nat.ble s.nc 799980)
section
variable {β:Type}
def opR (s:KS) (op a b:Nat) (no:β) (k:Nat→KS→β):β:=bif s.can 1 && (Nat.ble 1 op && (Nat.ble op 30 && (Nat.blt a s.used && Nat.blt b s.used))) then (match s with
 | ⟨rc,nc,rd,ru,rr,used,rs,names,data,cons,rt,nt,depth,ri,ro⟩ =>
  fB (iE ⟨rc,nc,rd,ru,rr,used,rs,names,data,cons,rt,nt,depth,ri,ro⟩ a || iE ⟨rc,nc,rd,ru,rr,used,rs,names,data,cons,rt,nt,depth,ri,ro⟩ b) fun sec =>
  fN (used + 1) fun used' => fN (names + 1) fun names' => Tr.iy 20 rs used (some sec) fun rs' =>
  bif Nat.ble op 23 then fN (nc + 4) fun nc' => k used ⟨⟨35,3,0,0,used⟩ :: ⟨op,3,1,2,0⟩ :: ⟨34,2,0,0,b⟩ :: ⟨34,1,0,0,a⟩ :: rc,nc',rd,ru,(names',1,sec) :: rr,used',rs',names',data,cons,rt,nt,depth,ri,ro⟩
  else fN (nc + 3) fun nc' => k used ⟨⟨35,3,0,0,used⟩ :: ⟨op,3,1,0,0⟩ :: ⟨34,1,0,0,a⟩ :: rc,nc',rd,ru,(names',1,sec) :: rr,used',rs',names',data,cons,rt,nt,depth,ri,ro⟩) else no
def OA (s:KS) (v:Nat) (no:β) (k:Nat→KS→β):β:=bif s.can 1 && Nat.ble v 2048 then (match s with
 | ⟨rc,nc,rd,ru,rr,used,rs,names,data,cons,rt,nt,depth,ri,ro⟩ =>
  fN (used + 1) fun used' => fN (names + 1) fun names' => Tr.iy 20 rs used (some true) fun rs' => fN (nc + 2) fun nc' =>
  k used ⟨⟨35,1,0,0,used⟩ :: ⟨34,1,0,0,v⟩ :: rc,nc',rd,ru,(names',1,true) :: rr,used',rs',names',data,cons,rt,nt,depth,ri,ro⟩) else no
def acJ (s:KS) (c v:Nat) (no:β) (k:KS→β):β:=bif s.can 0 && (Nat.ble v 2048 && Nat.ble c 2048) then (match s with
 | ⟨rc,nc,rd,ru,rr,used,rs,names,data,cons,rt,nt,depth,ri,ro⟩ => fN (nc + 2) fun nc' =>
  k ⟨⟨35,1,0,0,c⟩ :: ⟨34,1,0,0,v⟩ :: rc,nc',rd,ru,rr,used,rs,names,data,cons,rt,nt,depth,ri,ro⟩) else no
def Qo (s:KS) (n:Int) (no:β) (k:Nat→KS→β):β:=bif s.can 1 then (match s with
 | ⟨rc,nc,rd,ru,rr,used,rs,names,data,cons,rt,nt,depth,ri,ro⟩ => match wB cons n with
  | some a => fN a fun a => k a ⟨rc,nc,rd,ru,rr,used,rs,names,data,cons,rt,nt,depth,ri,ro⟩
  | none => fN (used + 1) fun used' => fN (names + 1) fun names' => Tr.iy 20 rs used (some false) fun rs' =>
   k used ⟨rc,nc,rd,ru,(names',1,false) :: rr,used',rs',names',(used,n) :: data,(n,used) :: cons,rt,nt,depth,ri,ro⟩) else no
def acK (s:KS) (n:Nat) (no:β) (k:KS→β):β:=bif s.can 1 && (Nat.ble 1 n && (Nat.ble n 32767 && Nat.ble s.depth 10)) then (match s with
 | ⟨rc,nc,rd,ru,rr,used,rs,names,data,cons,rt,nt,depth,ri,ro⟩ =>
  fN (used + 1) fun used' => fN (names + 1) fun names' => fN (names' + 1) fun names2 => Tr.iy 20 rs used (some false) fun rs' => fN (nc + 2) fun nc2 => fN (nc + 3) fun nc' => fN (8 + 2 * depth) fun c => fN (9 + 2 * depth) fun l => fN (depth + 1) fun depth' =>
  k ⟨⟨35,c,0,0,used⟩ :: ⟨31,l,0,0,n⟩ :: ⟨31,c,0,0,0⟩ :: rc,nc',(names2,nc2) :: rd,ru,(names',1,false) :: rr,used',rs',names2,data,cons,rt,nt,depth',ri,ro⟩) else no
def acL (s:KS) (depth:Nat) (name:Nat) (no:β) (k:KS→β):β:=bif Nat.beq s.depth (depth + 1) && Nat.ble s.nc 799980 then (match s with
 | ⟨rc,nc,rd,ru,rr,used,rs,names,data,cons,rt,nt,_,ri,ro⟩ => fN (nc + 2) fun nc' => fN (nc + 1) fun nc1 => fN (8 + 2 * depth) fun c => fN (9 + 2 * depth) fun l => fN name fun name =>
  k ⟨⟨38,c,l,0,0⟩ :: ⟨31,c,c,0,1⟩ :: rc,nc',rd,(name,nc1) :: ru,rr,used,rs,names,data,cons,rt,nt,depth,ri,ro⟩) else no
theorem iY {γ:Type} {c:Bool} {x:Option γ} {y:γ} (h:(bif c then x else none) = some y):c = true∧x = some y:=by
 cases c with
 | true => exact ⟨rfl,h⟩
 | false => cases h
end
section
variable {γ:Type} {y:γ}
theorem ahF {s:KS} {op a b:Nat} {k:Nat→KS→Option γ} (h:opR s op a b none k = some y):s.can 1 = true∧1≤op∧op≤30∧a < s.used∧b < s.used∧k s.used (s.op op a b) = some y:=by
 unfold opR at h
 obtain ⟨hc,h⟩:=iY h
 simp only [Bool.and_eq_true,aY,aH] at hc
 obtain ⟨h1,h2,h3,h4,h5⟩:=hc
 refine ⟨h1,h2,h3,h4,h5,?_⟩
 obtain ⟨rc,nc,rd,ru,rr,used,rs,names,data,cons,rt,nt,depth,ri,ro⟩:=s
 simp only [ak2,bT,dB] at h
 have e:mJ (iE ⟨rc,nc,rd,ru,rr,used,rs,names,data,cons,rt,nt,depth,ri,ro⟩ a || iE ⟨rc,nc,rd,ru,rr,used,rs,names,data,cons,rt,nt,depth,ri,ro⟩ b) 1 used rs = Tr.set 20 rs used (some (iE ⟨rc,nc,rd,ru,rr,used,rs,names,data,cons,rt,nt,depth,ri,ro⟩ a || iE ⟨rc,nc,rd,ru,rr,used,rs,names,data,cons,rt,nt,depth,ri,ro⟩ b)):=by
  unfold mJ
  rw [dB]
  rfl
 by_cases h23:op≤23
 · rw [show Nat.ble op 23 = true from aY.2 h23] at h
   simp only [cond_true] at h
   rw [← e] at h
   rw [← h]
   unfold KS.op
   simp only [h23,if_true]
   rfl
 · rw [show Nat.ble op 23 = false from by cases hb:Nat.ble op 23 with | false => rfl | true => exact absurd (aY.1 hb) h23] at h
   simp only [cond_false] at h
   rw [← e] at h
   rw [← h]
   unfold KS.op
   simp only [h23,if_false]
   rfl
theorem EW (b:Bool) (a:Nat) (t:Tr Bool):mJ b 1 a t = Tr.set 20 t a (some b):=by
 unfold mJ
 rw [dB]
 rfl
theorem Qp {s:KS} {v:Nat} {k:Nat→KS→Option γ} (h:OA s v none k = some y):s.can 1 = true∧v≤2048∧k s.used (s.cell v) = some y:=by
 unfold OA at h
 obtain ⟨hc,h⟩:=iY h
 simp only [Bool.and_eq_true,aY] at hc
 refine ⟨hc.1,hc.2,?_⟩
 obtain ⟨rc,nc,rd,ru,rr,used,rs,names,data,cons,rt,nt,depth,ri,ro⟩:=s
 simp only [bT,dB,← EW] at h
 exact h
theorem afF {s:KS} {c v:Nat} {k:KS→Option γ} (h:acJ s c v none k = some y):s.can 0 = true∧v≤2048∧c≤2048∧k (s.set c v) = some y:=by
 unfold acJ at h
 obtain ⟨hc,h⟩:=iY h
 simp only [Bool.and_eq_true,aY] at hc
 refine ⟨hc.1,hc.2.1,hc.2.2,?_⟩
 obtain ⟨rc,nc,rd,ru,rr,used,rs,names,data,cons,rt,nt,depth,ri,ro⟩:=s
 simp only [bT] at h
 exact h
theorem ZK {s:KS} {n:Int} {k:Nat→KS→Option γ} (h:Qo s n none k = some y):s.can 1 = true∧k (s.const n).1 (s.const n).2 = some y:=by
 unfold Qo at h
 obtain ⟨hc,h⟩:=iY h
 refine ⟨hc,?_⟩
 obtain ⟨rc,nc,rd,ru,rr,used,rs,names,data,cons,rt,nt,depth,ri,ro⟩:=s
 simp only [] at h
 unfold KS.const
 cases hf:wB cons n with
 | some a => simp only [hf,bT] at h ⊢; exact h
 | none =>
  simp only [hf,bT,dB,← EW] at h ⊢
  exact h
theorem afG {s:KS} {n:Nat} {k:KS→Option γ} (h:acK s n none k = some y):s.can 1 = true∧1≤n∧n≤32767∧s.depth≤10∧k (s.FZ n) = some y:=by
 unfold acK at h
 obtain ⟨hc,h⟩:=iY h
 simp only [Bool.and_eq_true,aY] at hc
 refine ⟨hc.1,hc.2.1,hc.2.2.1,hc.2.2.2,?_⟩
 obtain ⟨rc,nc,rd,ru,rr,used,rs,names,data,cons,rt,nt,depth,ri,ro⟩:=s
 simp only [bT,dB,← EW] at h
 exact h
theorem afH {s:KS} {d name:Nat} {k:KS→Option γ} (h:acL s d name none k = some y):s.depth = d + 1∧s.nc≤799980∧k (s.fin name) = some y:=by
 unfold acL at h
 obtain ⟨hc,h⟩:=iY h
 simp only [Bool.and_eq_true,aY,beq_iff] at hc
 refine ⟨hc.1,hc.2,?_⟩
 obtain ⟨rc,nc,rd,ru,rr,used,rs,names,data,cons,rt,nt,depth,ri,ro⟩:=s
 have hd:depth = d + 1:=hc.1
 subst hd
 simp only [bT] at h
 unfold KS.fin
 rw [show 8 + 2 * d = 6 + 2 * (d + 1) by omega,show 9 + 2 * d = 7 + 2 * (d + 1) by omega] at h
 exact h
end
end Go.Proofs.YtjegdngblndkcaaGreatDoor.Ab

/- A maker's methods for the kernel: Table, At. No program is in sight. -/
namespace Go.Proofs.YtjegdngblndkcaaGreatDoor.Ab
open Go Go.Proofs.YtjegdngblndkcaaGreatDoor Go.Proofs.YtjegdngblndkcaaGreatDoor.Xi
set_option linter.unusedVariables false
section
variable {β:Type}
def w_:List Int→Nat→List (Nat × Int)→(List (Nat × Int)→β)→β
 | [],_,d,k => k d
 | x :: l,a,d,k => fN (a + 1) fun a' => w_ l a' ((a,x) :: d) k
def QT (b:Bool):Nat→Nat→Tr Bool→(Tr Bool→β)→β
 | 0,_,t,k => k t
 | n + 1,a,t,k => Tr.iy 20 t a (some b) fun t' => fN (a + 1) fun a' => QT b n a' t' k
def OC:List Int→Bool
 | [] => true
 | x :: l => (Lit.int .i32 x).wf && OC l
def QU (s:KS) (l:List Int) (no:β) (k:Nat→KS→β):β:=bif s.can l.length && (Nat.ble 1 l.length && OC l) then (match s with
 | ⟨rc,nc,rd,ru,rr,used,rs,names,data,cons,rt,nt,depth,ri,ro⟩ =>
  fN l.length fun n => fN (used + n) fun used' => fN (names + 1) fun names' => fN (nt + 1) fun nt' => QT false n used rs fun rs' => w_ l used data fun data' =>
  k nt ⟨rc,nc,rd,ru,(names',n,false) :: rr,used',rs',names',data',cons,used :: rt,nt',depth,ri,ro⟩) else no
def atR (s:KS) (t i:Nat) (no:β) (k:Nat→KS→β):β:=bif s.can 1 && Nat.ble i 2048 then (match s with
 | ⟨rc,nc,rd,ru,rr,used,rs,names,data,cons,rt,nt,depth,ri,ro⟩ => match nth rt.reverse t with
  | some a => bif Nat.ble a 2048 then (fN a fun a => fN (used + 1) fun used' => fN (names + 1) fun names' => Tr.iy 20 rs used (some true) fun rs' => fN (nc + 3) fun nc' =>
   k used ⟨⟨35,2,0,0,used⟩ :: ⟨34,2,1,0,a⟩ :: ⟨34,1,0,0,i⟩ :: rc,nc',rd,ru,(names',1,true) :: rr,used',rs',names',data,cons,rt,nt,depth,ri,ro⟩) else no
  | none => no) else no
theorem Vg:∀ (l:List Int) (a:Nat) (d:List (Nat × Int)) (k:List (Nat × Int)→β),w_ l a d k = k (n_ l a d)
 | [],a,d,k => rfl
 | x :: l,a,d,k => by
  unfold w_
  rw [bT,Vg l]
  rfl
theorem La (b:Bool):∀ (n a:Nat) (t:Tr Bool) (k:Tr Bool→β),QT b n a t k = k (mJ b n a t)
 | 0,a,t,k => rfl
 | n + 1,a,t,k => by
  unfold QT mJ
  simp only [dB,bT]
  exact La b n _ _ k
theorem Nj:∀ {l:List Int},OC l = true→∀ x∈l,(Lit.int .i32 x).wf = true
 | [],_,x,hx => by simp at hx
 | y :: l,h,x,hx => by
  unfold OC at h
  simp only [Bool.and_eq_true] at h
  rcases List.mem_cons.1 hx with rfl | hx
  · exact h.1
  · exact Nj h.2 x hx
end
section
variable {γ:Type} {y:γ}
theorem aaq {s:KS} {l:List Int} {k:Nat→KS→Option γ} (h:QU s l none k = some y):s.can l.length = true∧1≤l.length∧(∀ x∈l,(Lit.int .i32 x).wf = true)∧k s.nt (s.table l) = some y:=by
 unfold QU at h
 obtain ⟨hc,h⟩:=iY h
 simp only [Bool.and_eq_true,aY] at hc
 refine ⟨hc.1,hc.2.1,Nj hc.2.2,?_⟩
 obtain ⟨rc,nc,rd,ru,rr,used,rs,names,data,cons,rt,nt,depth,ri,ro⟩:=s
 simp only [bT,La,Vg] at h
 exact h
theorem aiS {s:KS} {t i:Nat} {k:Nat→KS→Option γ} (h:atR s t i none k = some y):s.can 1 = true∧i≤2048∧∃ a,s.rt.reverse[t]? = some a∧a≤2048∧k s.used (s.at_ t i) = some y:=by
 unfold atR at h
 obtain ⟨hc,h⟩:=iY h
 simp only [Bool.and_eq_true,aY] at hc
 refine ⟨hc.1,hc.2,?_⟩
 obtain ⟨rc,nc,rd,ru,rr,used,rs,names,data,cons,rt,nt,depth,ri,ro⟩:=s
 simp only [nO] at h
 show ∃ a,rt.reverse[t]? = some a∧_
 cases hr:rt.reverse[t]? with
 | none => rw [hr] at h; cases h
 | some a =>
  rw [hr] at h
  simp only [] at h
  obtain ⟨ha,h⟩:=iY h
  refine ⟨a,rfl,aY.1 ha,?_⟩
  simp only [bT,dB,← EW] at h
  unfold KS.at_
  simp only [KS.load,KS.ins,List.getD_eq_getElem?_getD,hr,Option.getD_some]
  exact h
end
end Go.Proofs.YtjegdngblndkcaaGreatDoor.Ab

/- A maker's methods for the kernel: Fill. No program is in sight. -/
namespace Go.Proofs.YtjegdngblndkcaaGreatDoor.Ab
open Go Go.Proofs.YtjegdngblndkcaaGreatDoor Go.Proofs.YtjegdngblndkcaaGreatDoor.Xi
set_option linter.unusedVariables false
section
variable {β:Type}
def XR:List Nat→Nat→List aK→Nat→(List aK→Nat→β)→β
 | [],_,rc,nc,k => k rc nc
 | v :: l,a,rc,nc,k => fN (a + 1) fun a' => fN (nc + 2) fun nc' => XR l a' (⟨35,1,0,0,a⟩ :: ⟨34,1,0,0,v⟩ :: rc) nc' k
def OD:List Nat→Bool
 | [] => true
 | v :: l => Nat.ble v 2048 && OD l
def XT (s:KS) (l:List Nat) (no:β) (k:Nat→KS→β):β:=bif s.can l.length && (Nat.ble 1 l.length && (OD l && Nat.ble (s.nc + 2 * l.length) 799980)) then (match s with
 | ⟨rc,nc,rd,ru,rr,used,rs,names,data,cons,rt,nt,depth,ri,ro⟩ =>
  fN l.length fun n => fN (used + n) fun used' => fN (names + 1) fun names' => fN (nt + 1) fun nt' => QT true n used rs fun rs' => XR l used rc nc fun rc' nc' =>
  k nt ⟨rc',nc',rd,ru,(names',n,true) :: rr,used',rs',names',data,cons,used :: rt,nt',depth,ri,ro⟩) else no
def jL:List Nat→Nat→List aK→List aK
 | [],_,rc => rc
 | v :: l,a,rc => jL l (a + 1) (⟨35,1,0,0,a⟩ :: ⟨34,1,0,0,v⟩ :: rc)
theorem Vh:∀ (l:List Nat) (a:Nat) (rc:List aK) (nc:Nat) (k:List aK→Nat→β),XR l a rc nc k = k (jL l a rc) (nc + 2 * l.length)
 | [],a,rc,nc,k => rfl
 | v :: l,a,rc,nc,k => by
  unfold XR
  rw [bT,bT,Vh l]
  show k _ (nc + 2 + 2 * l.length) = k _ (nc + 2 * (l.length + 1))
  rw [show nc + 2 + 2 * l.length = nc + 2 * (l.length + 1) by omega]
  rfl
theorem yc:∀ (l:List Nat) (a:Nat) (s:KS),oQ l a s = { s with rc:=jL l a s.rc,nc:=s.nc + 2 * l.length }
 | [],a,s => rfl
 | v :: l,a,s => by
  show oQ l (a + 1) (s.set a v) = _
  rw [yc l]
  show KS.mk _ (s.nc + 1 + 1 + 2 * l.length) _ _ _ _ _ _ _ _ _ _ _ _ _ = KS.mk _ (s.nc + 2 * (l.length + 1)) _ _ _ _ _ _ _ _ _ _ _ _ _
  rw [show s.nc + 1 + 1 + 2 * l.length = s.nc + 2 * (l.length + 1) by omega]
  rfl
theorem Nl:∀ {l:List Nat},OD l = true→∀ v∈l,v≤2048
 | [],_,v,hv => by simp at hv
 | y :: l,h,v,hv => by
  unfold OD at h
  simp only [Bool.and_eq_true,aY] at h
  rcases List.mem_cons.1 hv with rfl | hv
  · exact h.1
  · exact Nl h.2 v hv
end
section
variable {γ:Type} {y:γ}
theorem ac7 {s:KS} {l:List Nat} {k:Nat→KS→Option γ} (h:XT s l none k = some y):s.can l.length = true∧1≤l.length∧(∀ v∈l,v≤2048)∧s.nc + 2 * l.length≤799980∧k s.nt (s.fill l) = some y:=by
 unfold XT at h
 obtain ⟨hc,h⟩:=iY h
 simp only [Bool.and_eq_true,aY] at hc
 refine ⟨hc.1,hc.2.1,Nl hc.2.2.1,hc.2.2.2,?_⟩
 obtain ⟨rc,nc,rd,ru,rr,used,rs,names,data,cons,rt,nt,depth,ri,ro⟩:=s
 simp only [bT,La,Vh] at h
 unfold KS.fill
 rw [yc]
 exact h
end
end Go.Proofs.YtjegdngblndkcaaGreatDoor.Ab
