/- Texts of this claim, side by side: NmK, Ks2, MakA, MakB, MakC. -/
import Derived.Test.YtjcgiddgafjdpaaGreatDoorKs
import Derived.Lib.ItoaMem
import Derived.Lib.ItoaLen
/- Names with numbers: each is a name, and all are unlike. No program is in sight. -/
namespace Go.Proofs.YtjcgiddgafjdpaaGreatDoor.Ab
open Go Go.Proofs.YtjcgiddgafjdpaaGreatDoor
set_option linter.unusedVariables false
theorem dec_small {u:Nat} (h:u < 10):Lib.decDigits u = [UInt8.ofNat (48 + u)]:=Lib.decDigits_one h
theorem dec_big {u:Nat} (h:¬ u < 10):Lib.decDigits u = Lib.decDigits (u / 10) ++ [UInt8.ofNat (48 + u % 10)]:=by rw [Lib.decDigits,dif_neg h]
theorem dec_ne (u:Nat):Lib.decDigits u≠[]:=by
 by_cases h:u < 10
 · rw [dec_small h]; simp
 · rw [dec_big h]; simp
theorem chr_inj {a b:Nat} (ha:a < 10) (hb:b < 10) (h:UInt8.ofNat (48 + a) = UInt8.ofNat (48 + b)):a = b:=by
 have:=congrArg UInt8.toNat h
 simp only [UInt8.toNat_ofNat'] at this
 omega
theorem dec_inj:∀ (u v:Nat),Lib.decDigits u = Lib.decDigits v→u = v:=by
 intro u
 induction u using Nat.strongRecOn with
 | ind u ih =>
  intro v h
  by_cases hu:u < 10
  · by_cases hv:v < 10
    · rw [dec_small hu,dec_small hv] at h
      injection h with h _
      exact chr_inj hu hv h
    · rw [dec_small hu,dec_big hv] at h
      have:=congrArg List.length h
      simp at this
      exact absurd this (dec_ne _)
  · by_cases hv:v < 10
    · rw [dec_big hu,dec_small hv] at h
      have:=congrArg List.length h
      simp at this
      exact absurd this (dec_ne _)
    · rw [dec_big hu,dec_big hv] at h
      obtain ⟨h1,h2⟩:=List.append_inj' h rfl
      have e1:=ih (u / 10) (by omega) (v / 10) h1
      injection h2 with h2 _
      have e2:=chr_inj (by omega) (by omega) h2
      omega
theorem dec_other:∀ (u:Nat),(Lib.decDigits u).all otherB = true:=by
 intro u
 induction u using Nat.strongRecOn with
 | ind u ih =>
  have key:∀ d,d < 10→otherB (UInt8.ofNat (48 + d)) = true:=by decide
  by_cases hu:u < 10
  · rw [dec_small hu]
    show (otherB _ && true) = true
    rw [key u hu]
    rfl
  · rw [dec_big hu,List.all_append,ih (u / 10) (by omega)]
    show (true && (otherB _ && true)) = true
    rw [key (u % 10) (by omega)]
    rfl
theorem dec_len {u:Nat} (h:u < 1000000):(Lib.decDigits u).length≤21:=by
 have:=Lib.itoa_length_le (u:Int) (by omega) (by omega)
 rwa [Lib.itoa_nonneg] at this
theorem isL_v {u:Nat} (h:u < 1000000):isL (vName u) = true:=by
 unfold isL vName decN8
 rw [Lib.itoa_nonneg]
 have:=dec_len h
 simp only [Bool.and_eq_true,decide_eq_true_eq]
 exact ⟨⟨by omega,by decide⟩,dec_other u⟩
theorem isL_l {u:Nat} (h:u < 1000000):isL (lName u) = true:=by
 unfold isL lName decN8
 rw [Lib.itoa_nonneg]
 have:=dec_len h
 simp only [Bool.and_eq_true,decide_eq_true_eq]
 exact ⟨⟨by omega,by decide⟩,dec_other u⟩
theorem vName_inj {u v:Nat} (h:vName u = vName v):u = v:=by
 unfold vName decN8 at h
 rw [Lib.itoa_nonneg,Lib.itoa_nonneg] at h
 injection h with _ h
 exact dec_inj u v h
theorem lName_inj {u v:Nat} (h:lName u = lName v):u = v:=by
 unfold lName decN8 at h
 rw [Lib.itoa_nonneg,Lib.itoa_nonneg] at h
 injection h with _ h
 exact dec_inj u v h
def findP:List (Nat × Nat)→Nat→Option Nat
 | [],_ => none
 | (i,a) :: l,j => bif Nat.beq i j then some a else findP l j
def fixN (defs:List (Nat × Nat)):List (Nat × Nat)→Option (List (Nat × Nat))
 | [] => some []
 | (j,p) :: l => match findP defs j with
  | none => none
  | some t => match fixN defs l with
   | none => none
   | some r => some ((p,t) :: r)
def nmP (p:Nat × Nat):Nm × Int:=(lName p.1,(p.2:Int))
def inP (p:Nat × Nat):Int × Int:=((p.1:Int),(p.2:Int))
theorem findL_l (j:Nat):∀ (l:List (Nat × Nat)),findL (l.map nmP) (lName j) = (findP l j).map fun a => (a:Int)
 | [] => rfl
 | (i,a) :: l => by
  have ih:=findL_l j l
  unfold findL at ih ⊢
  simp only [List.map_cons,List.find?_cons,findP]
  by_cases e:i = j
  · subst e
    have:Nat.beq i i = true:=Xi.beq_iff.2 rfl
    rw [this]
    simp [nmP]
  · have h1 : Nat.beq i j = false := by
     cases h:Nat.beq i j with
     | false => rfl
     | true => exact absurd (Xi.beq_iff.1 h) e
    have h2:((nmP (i,a)).1 == lName j) = false:=by
     simp only [nmP,beq_eq_false_iff_ne]
     exact fun h => e (lName_inj h)
    rw [h1,h2]
    exact ih
theorem fixM_l (defs:List (Nat × Nat)):∀ (uses fx:List (Nat × Nat)),fixN defs uses = some fx→fixM (defs.map nmP) (uses.map nmP) = .ok (fx.map inP)
 | [],fx,h => by
  unfold fixN at h
  injection h with h
  subst h
  rfl
 | (j,p) :: l,fx,h => by
  unfold fixN at h
  cases hf:findP defs j with
  | none => rw [hf] at h; cases h
  | some t =>
   rw [hf] at h
   simp only [] at h
   cases hr:fixN defs l with
   | none => rw [hr] at h; cases h
   | some r =>
    rw [hr] at h
    injection h with h
    subst h
    have ih:=fixM_l defs l r hr
    have e:findL (defs.map nmP) (nmP (j,p)).1 = some (t:Int):=by
     show findL _ (lName j) = _
     rw [findL_l,hf]
     rfl
    show (match findL (defs.map nmP) (nmP (j,p)).1 with
     | none => Except.error (nmP (j,p)).1
     | some t => match fixM (defs.map nmP) (l.map nmP) with
      | .error e => .error e
      | .ok l => .ok (((nmP (j,p)).2,t) :: l)) = _
    rw [e,ih]
    rfl
def finN (s:KS):Option (List Int):=match fixN s.rd.reverse s.ru.reverse with
 | some fx => bif Nat.ble s.rc.length 16384 then some (codeM (fx.map inP) s.rc.reverse) else none
 | none => none
theorem finM_n {s:KS} {l:List Int} (h:finN s = some l):finM s.bm = (l,[],0):=by
 unfold finN at h
 cases hf:fixN s.rd.reverse s.ru.reverse with
 | none => rw [hf] at h; cases h
 | some fx =>
  rw [hf] at h
  simp only [] at h
  cases hb:Nat.ble s.rc.length 16384 with
  | false => rw [hb] at h; cases h
  | true =>
   rw [hb] at h
   injection h with h
   subst h
   have hb:=Xi.ble_iff.1 hb
   have hx:=fixM_l _ _ _ hf
   unfold finM
   rw [show s.bm.defs = s.rd.reverse.map nmP from rfl,show s.bm.uses = s.ru.reverse.map nmP from rfl]
   rw [hx]
   simp only []
   rw [if_neg (by show ¬ 16384 < s.rc.reverse.length; rw [List.length_reverse]; omega)]
   rfl
end Go.Proofs.YtjcgiddgafjdpaaGreatDoor.Ab

/- A maker's methods for the kernel: a state's parts are plain after each step. No program is in sight. -/
namespace Go.Proofs.YtjcgiddgafjdpaaGreatDoor.Ab
open Go Go.Proofs.YtjcgiddgafjdpaaGreatDoor Go.Proofs.YtjcgiddgafjdpaaGreatDoor.Xi
set_option linter.unusedVariables false
def fB {β:Type}:Bool→(Bool→β)→β
 | true,k => k true
 | false,k => k false
theorem fB_eq {β:Type} (b:Bool) (k:Bool→β):fB b k = k b:=by cases b <;> rfl
def KS.can (s:KS) (n:Nat):Bool:=Nat.ble (s.used + n) 2048 && (Nat.ble s.names 99990 && Nat.ble s.nc 799980)
section
variable {β:Type}
def opR (s:KS) (op a b:Nat) (no:β) (k:Nat→KS→β):β:=bif s.can 1 && (Nat.ble 1 op && (Nat.ble op 30 && (Nat.blt a s.used && Nat.blt b s.used))) then (match s with
 | ⟨rc,nc,rd,ru,rr,used,rs,names,data,cons,rt,nt,depth,ri,ro⟩ =>
  fB (secAt ⟨rc,nc,rd,ru,rr,used,rs,names,data,cons,rt,nt,depth,ri,ro⟩ a || secAt ⟨rc,nc,rd,ru,rr,used,rs,names,data,cons,rt,nt,depth,ri,ro⟩ b) fun sec =>
  fN (used + 1) fun used' => fN (names + 1) fun names' => Tr.setK 20 rs used (some sec) fun rs' =>
  bif Nat.ble op 23 then fN (nc + 4) fun nc' => k used ⟨⟨35,3,0,0,used⟩ :: ⟨op,3,1,2,0⟩ :: ⟨34,2,0,0,b⟩ :: ⟨34,1,0,0,a⟩ :: rc,nc',rd,ru,(names',1,sec) :: rr,used',rs',names',data,cons,rt,nt,depth,ri,ro⟩
  else fN (nc + 3) fun nc' => k used ⟨⟨35,3,0,0,used⟩ :: ⟨op,3,1,0,0⟩ :: ⟨34,1,0,0,a⟩ :: rc,nc',rd,ru,(names',1,sec) :: rr,used',rs',names',data,cons,rt,nt,depth,ri,ro⟩) else no
def cellR (s:KS) (v:Nat) (no:β) (k:Nat→KS→β):β:=bif s.can 1 && Nat.ble v 2048 then (match s with
 | ⟨rc,nc,rd,ru,rr,used,rs,names,data,cons,rt,nt,depth,ri,ro⟩ =>
  fN (used + 1) fun used' => fN (names + 1) fun names' => Tr.setK 20 rs used (some true) fun rs' => fN (nc + 2) fun nc' =>
  k used ⟨⟨35,1,0,0,used⟩ :: ⟨34,1,0,0,v⟩ :: rc,nc',rd,ru,(names',1,true) :: rr,used',rs',names',data,cons,rt,nt,depth,ri,ro⟩) else no
def setR (s:KS) (c v:Nat) (no:β) (k:KS→β):β:=bif s.can 0 && (Nat.ble v 2048 && Nat.ble c 2048) then (match s with
 | ⟨rc,nc,rd,ru,rr,used,rs,names,data,cons,rt,nt,depth,ri,ro⟩ => fN (nc + 2) fun nc' =>
  k ⟨⟨35,1,0,0,c⟩ :: ⟨34,1,0,0,v⟩ :: rc,nc',rd,ru,rr,used,rs,names,data,cons,rt,nt,depth,ri,ro⟩) else no
def constR (s:KS) (n:Int) (no:β) (k:Nat→KS→β):β:=bif s.can 1 then (match s with
 | ⟨rc,nc,rd,ru,rr,used,rs,names,data,cons,rt,nt,depth,ri,ro⟩ => match findC cons n with
  | some a => fN a fun a => k a ⟨rc,nc,rd,ru,rr,used,rs,names,data,cons,rt,nt,depth,ri,ro⟩
  | none => fN (used + 1) fun used' => fN (names + 1) fun names' => Tr.setK 20 rs used (some false) fun rs' =>
   k used ⟨rc,nc,rd,ru,(names',1,false) :: rr,used',rs',names',(used,n) :: data,(n,used) :: cons,rt,nt,depth,ri,ro⟩) else no
def begR (s:KS) (n:Nat) (no:β) (k:KS→β):β:=bif s.can 1 && (Nat.ble 1 n && (Nat.ble n 32767 && Nat.ble s.depth 10)) then (match s with
 | ⟨rc,nc,rd,ru,rr,used,rs,names,data,cons,rt,nt,depth,ri,ro⟩ =>
  fN (used + 1) fun used' => fN (names + 1) fun names' => fN (names' + 1) fun names2 => Tr.setK 20 rs used (some false) fun rs' => fN (nc + 2) fun nc2 => fN (nc + 3) fun nc' => fN (8 + 2 * depth) fun c => fN (9 + 2 * depth) fun l => fN (depth + 1) fun depth' =>
  k ⟨⟨35,c,0,0,used⟩ :: ⟨31,l,0,0,n⟩ :: ⟨31,c,0,0,0⟩ :: rc,nc',(names2,nc2) :: rd,ru,(names',1,false) :: rr,used',rs',names2,data,cons,rt,nt,depth',ri,ro⟩) else no
def finR (s:KS) (depth:Nat) (name:Nat) (no:β) (k:KS→β):β:=bif Nat.beq s.depth (depth + 1) && Nat.ble s.nc 799980 then (match s with
 | ⟨rc,nc,rd,ru,rr,used,rs,names,data,cons,rt,nt,_,ri,ro⟩ => fN (nc + 2) fun nc' => fN (nc + 1) fun nc1 => fN (8 + 2 * depth) fun c => fN (9 + 2 * depth) fun l => fN name fun name =>
  k ⟨⟨38,c,l,0,0⟩ :: ⟨31,c,c,0,1⟩ :: rc,nc',rd,(name,nc1) :: ru,rr,used,rs,names,data,cons,rt,nt,depth,ri,ro⟩) else no
theorem cond_some {γ:Type} {c:Bool} {x:Option γ} {y:γ} (h:(bif c then x else none) = some y):c = true∧x = some y:=by
 cases c with
 | true => exact ⟨rfl,h⟩
 | false => cases h
end
section
variable {γ:Type} {y:γ}
theorem opR_ok {s:KS} {op a b:Nat} {k:Nat→KS→Option γ} (h:opR s op a b none k = some y):s.can 1 = true∧1≤op∧op≤30∧a < s.used∧b < s.used∧k s.used (s.op op a b) = some y:=by
 unfold opR at h
 obtain ⟨hc,h⟩:=cond_some h
 simp only [Bool.and_eq_true,ble_iff,blt_iff] at hc
 obtain ⟨h1,h2,h3,h4,h5⟩:=hc
 refine ⟨h1,h2,h3,h4,h5,?_⟩
 obtain ⟨rc,nc,rd,ru,rr,used,rs,names,data,cons,rt,nt,depth,ri,ro⟩:=s
 simp only [fB_eq,fN_eq,setK_eq'] at h
 have e:setSec (secAt ⟨rc,nc,rd,ru,rr,used,rs,names,data,cons,rt,nt,depth,ri,ro⟩ a || secAt ⟨rc,nc,rd,ru,rr,used,rs,names,data,cons,rt,nt,depth,ri,ro⟩ b) 1 used rs = Tr.set 20 rs used (some (secAt ⟨rc,nc,rd,ru,rr,used,rs,names,data,cons,rt,nt,depth,ri,ro⟩ a || secAt ⟨rc,nc,rd,ru,rr,used,rs,names,data,cons,rt,nt,depth,ri,ro⟩ b)):=by
  unfold setSec
  rw [setK_eq']
  rfl
 by_cases h23:op≤23
 · rw [show Nat.ble op 23 = true from ble_iff.2 h23] at h
   simp only [cond_true] at h
   rw [← e] at h
   rw [← h]
   unfold KS.op
   simp only [h23,if_true]
   rfl
 · rw [show Nat.ble op 23 = false from by cases hb:Nat.ble op 23 with | false => rfl | true => exact absurd (ble_iff.1 hb) h23] at h
   simp only [cond_false] at h
   rw [← e] at h
   rw [← h]
   unfold KS.op
   simp only [h23,if_false]
   rfl
theorem setSec1 (b:Bool) (a:Nat) (t:Tr Bool):setSec b 1 a t = Tr.set 20 t a (some b):=by
 unfold setSec
 rw [setK_eq']
 rfl
theorem cellR_ok {s:KS} {v:Nat} {k:Nat→KS→Option γ} (h:cellR s v none k = some y):s.can 1 = true∧v≤2048∧k s.used (s.cell v) = some y:=by
 unfold cellR at h
 obtain ⟨hc,h⟩:=cond_some h
 simp only [Bool.and_eq_true,ble_iff] at hc
 refine ⟨hc.1,hc.2,?_⟩
 obtain ⟨rc,nc,rd,ru,rr,used,rs,names,data,cons,rt,nt,depth,ri,ro⟩:=s
 simp only [fN_eq,setK_eq',← setSec1] at h
 exact h
theorem setR_ok {s:KS} {c v:Nat} {k:KS→Option γ} (h:setR s c v none k = some y):s.can 0 = true∧v≤2048∧c≤2048∧k (s.set c v) = some y:=by
 unfold setR at h
 obtain ⟨hc,h⟩:=cond_some h
 simp only [Bool.and_eq_true,ble_iff] at hc
 refine ⟨hc.1,hc.2.1,hc.2.2,?_⟩
 obtain ⟨rc,nc,rd,ru,rr,used,rs,names,data,cons,rt,nt,depth,ri,ro⟩:=s
 simp only [fN_eq] at h
 exact h
theorem constR_ok {s:KS} {n:Int} {k:Nat→KS→Option γ} (h:constR s n none k = some y):s.can 1 = true∧k (s.const n).1 (s.const n).2 = some y:=by
 unfold constR at h
 obtain ⟨hc,h⟩:=cond_some h
 refine ⟨hc,?_⟩
 obtain ⟨rc,nc,rd,ru,rr,used,rs,names,data,cons,rt,nt,depth,ri,ro⟩:=s
 simp only [] at h
 unfold KS.const
 cases hf:findC cons n with
 | some a => simp only [hf,fN_eq] at h ⊢; exact h
 | none =>
  simp only [hf,fN_eq,setK_eq',← setSec1] at h ⊢
  exact h
theorem begR_ok {s:KS} {n:Nat} {k:KS→Option γ} (h:begR s n none k = some y):s.can 1 = true∧1≤n∧n≤32767∧s.depth≤10∧k (s.beg n) = some y:=by
 unfold begR at h
 obtain ⟨hc,h⟩:=cond_some h
 simp only [Bool.and_eq_true,ble_iff] at hc
 refine ⟨hc.1,hc.2.1,hc.2.2.1,hc.2.2.2,?_⟩
 obtain ⟨rc,nc,rd,ru,rr,used,rs,names,data,cons,rt,nt,depth,ri,ro⟩:=s
 simp only [fN_eq,setK_eq',← setSec1] at h
 exact h
theorem finR_ok {s:KS} {d name:Nat} {k:KS→Option γ} (h:finR s d name none k = some y):s.depth = d + 1∧s.nc≤799980∧k (s.fin name) = some y:=by
 unfold finR at h
 obtain ⟨hc,h⟩:=cond_some h
 simp only [Bool.and_eq_true,ble_iff,beq_iff] at hc
 refine ⟨hc.1,hc.2,?_⟩
 obtain ⟨rc,nc,rd,ru,rr,used,rs,names,data,cons,rt,nt,depth,ri,ro⟩:=s
 have hd:depth = d + 1:=hc.1
 subst hd
 simp only [fN_eq] at h
 unfold KS.fin
 rw [show 8 + 2 * d = 6 + 2 * (d + 1) by omega,show 9 + 2 * d = 7 + 2 * (d + 1) by omega] at h
 exact h
end
end Go.Proofs.YtjcgiddgafjdpaaGreatDoor.Ab

/- A maker's methods for the kernel: Table, At. No program is in sight. -/
namespace Go.Proofs.YtjcgiddgafjdpaaGreatDoor.Ab
open Go Go.Proofs.YtjcgiddgafjdpaaGreatDoor Go.Proofs.YtjcgiddgafjdpaaGreatDoor.Xi
set_option linter.unusedVariables false
section
variable {β:Type}
def putK:List Int→Nat→List (Nat × Int)→(List (Nat × Int)→β)→β
 | [],_,d,k => k d
 | x :: l,a,d,k => fN (a + 1) fun a' => putK l a' ((a,x) :: d) k
def secK (b:Bool):Nat→Nat→Tr Bool→(Tr Bool→β)→β
 | 0,_,t,k => k t
 | n + 1,a,t,k => Tr.setK 20 t a (some b) fun t' => fN (a + 1) fun a' => secK b n a' t' k
def all32:List Int→Bool
 | [] => true
 | x :: l => (Lit.int .i32 x).wf && all32 l
def tableR (s:KS) (l:List Int) (no:β) (k:Nat→KS→β):β:=bif s.can l.length && (Nat.ble 1 l.length && all32 l) then (match s with
 | ⟨rc,nc,rd,ru,rr,used,rs,names,data,cons,rt,nt,depth,ri,ro⟩ =>
  fN l.length fun n => fN (used + n) fun used' => fN (names + 1) fun names' => fN (nt + 1) fun nt' => secK false n used rs fun rs' => putK l used data fun data' =>
  k nt ⟨rc,nc,rd,ru,(names',n,false) :: rr,used',rs',names',data',cons,used :: rt,nt',depth,ri,ro⟩) else no
def atR (s:KS) (t i:Nat) (no:β) (k:Nat→KS→β):β:=bif s.can 1 && Nat.ble i 2048 then (match s with
 | ⟨rc,nc,rd,ru,rr,used,rs,names,data,cons,rt,nt,depth,ri,ro⟩ => match nth rt.reverse t with
  | some a => bif Nat.ble a 2048 then (fN a fun a => fN (used + 1) fun used' => fN (names + 1) fun names' => Tr.setK 20 rs used (some true) fun rs' => fN (nc + 3) fun nc' =>
   k used ⟨⟨35,2,0,0,used⟩ :: ⟨34,2,1,0,a⟩ :: ⟨34,1,0,0,i⟩ :: rc,nc',rd,ru,(names',1,true) :: rr,used',rs',names',data,cons,rt,nt,depth,ri,ro⟩) else no
  | none => no) else no
theorem putK_eq:∀ (l:List Int) (a:Nat) (d:List (Nat × Int)) (k:List (Nat × Int)→β),putK l a d k = k (putD l a d)
 | [],a,d,k => rfl
 | x :: l,a,d,k => by
  unfold putK
  rw [fN_eq,putK_eq l]
  rfl
theorem secK_eq (b:Bool):∀ (n a:Nat) (t:Tr Bool) (k:Tr Bool→β),secK b n a t k = k (setSec b n a t)
 | 0,a,t,k => rfl
 | n + 1,a,t,k => by
  unfold secK setSec
  simp only [setK_eq',fN_eq]
  exact secK_eq b n _ _ k
theorem all32_iff:∀ {l:List Int},all32 l = true→∀ x∈l,(Lit.int .i32 x).wf = true
 | [],_,x,hx => by simp at hx
 | y :: l,h,x,hx => by
  unfold all32 at h
  simp only [Bool.and_eq_true] at h
  rcases List.mem_cons.1 hx with rfl | hx
  · exact h.1
  · exact all32_iff h.2 x hx
end
section
variable {γ:Type} {y:γ}
theorem tableR_ok {s:KS} {l:List Int} {k:Nat→KS→Option γ} (h:tableR s l none k = some y):s.can l.length = true∧1≤l.length∧(∀ x∈l,(Lit.int .i32 x).wf = true)∧k s.nt (s.table l) = some y:=by
 unfold tableR at h
 obtain ⟨hc,h⟩:=cond_some h
 simp only [Bool.and_eq_true,ble_iff] at hc
 refine ⟨hc.1,hc.2.1,all32_iff hc.2.2,?_⟩
 obtain ⟨rc,nc,rd,ru,rr,used,rs,names,data,cons,rt,nt,depth,ri,ro⟩:=s
 simp only [fN_eq,secK_eq,putK_eq] at h
 exact h
theorem atR_ok {s:KS} {t i:Nat} {k:Nat→KS→Option γ} (h:atR s t i none k = some y):s.can 1 = true∧i≤2048∧∃ a,s.rt.reverse[t]? = some a∧a≤2048∧k s.used (s.at_ t i) = some y:=by
 unfold atR at h
 obtain ⟨hc,h⟩:=cond_some h
 simp only [Bool.and_eq_true,ble_iff] at hc
 refine ⟨hc.1,hc.2,?_⟩
 obtain ⟨rc,nc,rd,ru,rr,used,rs,names,data,cons,rt,nt,depth,ri,ro⟩:=s
 simp only [nth_eq] at h
 show ∃ a,rt.reverse[t]? = some a∧_
 cases hr:rt.reverse[t]? with
 | none => rw [hr] at h; cases h
 | some a =>
  rw [hr] at h
  simp only [] at h
  obtain ⟨ha,h⟩:=cond_some h
  refine ⟨a,rfl,ble_iff.1 ha,?_⟩
  simp only [fN_eq,setK_eq',← setSec1] at h
  unfold KS.at_
  simp only [KS.load,KS.ins,List.getD_eq_getElem?_getD,hr,Option.getD_some]
  exact h
end
end Go.Proofs.YtjcgiddgafjdpaaGreatDoor.Ab

/- A maker's methods for the kernel: Fill. No program is in sight. -/
namespace Go.Proofs.YtjcgiddgafjdpaaGreatDoor.Ab
open Go Go.Proofs.YtjcgiddgafjdpaaGreatDoor Go.Proofs.YtjcgiddgafjdpaaGreatDoor.Xi
set_option linter.unusedVariables false
section
variable {β:Type}
def insK:List Nat→Nat→List Ins5→Nat→(List Ins5→Nat→β)→β
 | [],_,rc,nc,k => k rc nc
 | v :: l,a,rc,nc,k => fN (a + 1) fun a' => fN (nc + 2) fun nc' => insK l a' (⟨35,1,0,0,a⟩ :: ⟨34,1,0,0,v⟩ :: rc) nc' k
def allLe:List Nat→Bool
 | [] => true
 | v :: l => Nat.ble v 2048 && allLe l
def fillR (s:KS) (l:List Nat) (no:β) (k:Nat→KS→β):β:=bif s.can l.length && (Nat.ble 1 l.length && (allLe l && Nat.ble (s.nc + 2 * l.length) 799980)) then (match s with
 | ⟨rc,nc,rd,ru,rr,used,rs,names,data,cons,rt,nt,depth,ri,ro⟩ =>
  fN l.length fun n => fN (used + n) fun used' => fN (names + 1) fun names' => fN (nt + 1) fun nt' => secK true n used rs fun rs' => insK l used rc nc fun rc' nc' =>
  k nt ⟨rc',nc',rd,ru,(names',n,true) :: rr,used',rs',names',data,cons,used :: rt,nt',depth,ri,ro⟩) else no
def fillI:List Nat→Nat→List Ins5→List Ins5
 | [],_,rc => rc
 | v :: l,a,rc => fillI l (a + 1) (⟨35,1,0,0,a⟩ :: ⟨34,1,0,0,v⟩ :: rc)
theorem insK_eq:∀ (l:List Nat) (a:Nat) (rc:List Ins5) (nc:Nat) (k:List Ins5→Nat→β),insK l a rc nc k = k (fillI l a rc) (nc + 2 * l.length)
 | [],a,rc,nc,k => rfl
 | v :: l,a,rc,nc,k => by
  unfold insK
  rw [fN_eq,fN_eq,insK_eq l]
  show k _ (nc + 2 + 2 * l.length) = k _ (nc + 2 * (l.length + 1))
  rw [show nc + 2 + 2 * l.length = nc + 2 * (l.length + 1) by omega]
  rfl
theorem fillK_eq:∀ (l:List Nat) (a:Nat) (s:KS),fillK l a s = { s with rc:=fillI l a s.rc,nc:=s.nc + 2 * l.length }
 | [],a,s => rfl
 | v :: l,a,s => by
  show fillK l (a + 1) (s.set a v) = _
  rw [fillK_eq l]
  show KS.mk _ (s.nc + 1 + 1 + 2 * l.length) _ _ _ _ _ _ _ _ _ _ _ _ _ = KS.mk _ (s.nc + 2 * (l.length + 1)) _ _ _ _ _ _ _ _ _ _ _ _ _
  rw [show s.nc + 1 + 1 + 2 * l.length = s.nc + 2 * (l.length + 1) by omega]
  rfl
theorem allLe_iff:∀ {l:List Nat},allLe l = true→∀ v∈l,v≤2048
 | [],_,v,hv => by simp at hv
 | y :: l,h,v,hv => by
  unfold allLe at h
  simp only [Bool.and_eq_true,ble_iff] at h
  rcases List.mem_cons.1 hv with rfl | hv
  · exact h.1
  · exact allLe_iff h.2 v hv
end
section
variable {γ:Type} {y:γ}
theorem fillR_ok {s:KS} {l:List Nat} {k:Nat→KS→Option γ} (h:fillR s l none k = some y):s.can l.length = true∧1≤l.length∧(∀ v∈l,v≤2048)∧s.nc + 2 * l.length≤799980∧k s.nt (s.fill l) = some y:=by
 unfold fillR at h
 obtain ⟨hc,h⟩:=cond_some h
 simp only [Bool.and_eq_true,ble_iff] at hc
 refine ⟨hc.1,hc.2.1,allLe_iff hc.2.2.1,hc.2.2.2,?_⟩
 obtain ⟨rc,nc,rd,ru,rr,used,rs,names,data,cons,rt,nt,depth,ri,ro⟩:=s
 simp only [fN_eq,secK_eq,insK_eq] at h
 unfold KS.fill
 rw [fillK_eq]
 exact h
end
end Go.Proofs.YtjcgiddgafjdpaaGreatDoor.Ab
