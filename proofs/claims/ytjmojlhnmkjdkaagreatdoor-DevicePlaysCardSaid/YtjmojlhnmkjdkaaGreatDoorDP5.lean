/- Texts of this claim, side by side. -/
import Derived.Test.YtjmojlhnmkjdkaaGreatDoorKsD
import Derived.Lib.ItoaLen
set_option linter.unusedVariables false
namespace Go.Proofs.YtjmojlhnmkjdkaaGreatDoor
namespace Ab
open Go Go.Proofs.YtjmojlhnmkjdkaaGreatDoor
theorem uw{u:Nat}(h:u<10):Lib.decDigits u=[UInt8.ofNat (48+u)]:=Lib.decDigits_one h
theorem zK{u:Nat}(h:¬ u<10):Lib.decDigits u=Lib.decDigits (u / 10)++[UInt8.ofNat (48+u%10)]:=by rw [Lib.decDigits,dif_neg h]
theorem aeM (u:Nat):Lib.decDigits u≠[]:=by
 by_cases h:u<10
 . rw [uw h]; simp
 . rw [zK h]; simp
theorem ZF{a b:Nat}(ha:a<10)(hb:b<10)(h:UInt8.ofNat (48+a)=UInt8.ofNat (48+b)):a=b:=by
 have:=congrArg UInt8.toNat h;simp only [UInt8.toNat_ofNat'] at this;omega
theorem ZG:∀(u v:Nat),Lib.decDigits u=Lib.decDigits v->u=v:=by
 intro u
 induction u using Nat.strongRecOn with
 | ind u ih =>
  intro v h;by_cases hu:u<10
  . by_cases hv:v<10
    . rw [uw hu,uw hv] at h
      injection h with h _;exact ZF hu hv h
    . rw [uw hu,zK hv] at h
      have:=congrArg List.length h;simp at this;exact absurd this (aeM _)
  . by_cases hv:v<10
    . rw [zK hu,uw hv] at h
      have:=congrArg List.length h;simp at this;exact absurd this (aeM _)
    . rw [zK hu,zK hv] at h
      obtain⟨h1,h2⟩:=List.append_inj' h rfl;have e1:=ih (u / 10) (by omega) (v / 10) h1;injection h2 with h2 _;have e2:=ZF (by omega) (by omega) h2;omega
theorem Q7:∀(u:Nat),(Lib.decDigits u).all kX=true:=by
 intro u
 induction u using Nat.strongRecOn with
 | ind u ih =>
  have key:∀ d,d<10->kX (UInt8.ofNat (48+d))=true:=by decide
  by_cases hu:u<10
  . rw [uw hu]
    show(kX _&&true)=true;rw [key u hu];rfl
  . rw [zK hu,List.all_append,ih (u / 10) (by omega)]
    show(true&&(kX _&&true))=true;rw [key (u%10) (by omega)];rfl
theorem DR{u:Nat}(h:u<1000000):(Lib.decDigits u).length<=21:=by
 have:=Lib.itoa_length_le (u:Int) (by omega) (by omega);rwa [Lib.itoa_nonneg] at this
theorem akU{u:Nat}(h:u<1000000):qJ (iL u)=true:=by
 unfold qJ iL oI;rw [Lib.itoa_nonneg];have:=DR h;simp only [Bool.and_eq_true,decide_eq_true_eq];exact⟨⟨by omega,by decide⟩,Q7 u⟩
theorem atE{u:Nat}(h:u<1000000):qJ (jg u)=true:=by
 unfold qJ jg oI;rw [Lib.itoa_nonneg];have:=DR h;simp only [Bool.and_eq_true,decide_eq_true_eq];exact⟨⟨by omega,by decide⟩,Q7 u⟩
theorem aeN{u v:Nat}(h:iL u=iL v):u=v:=by
 unfold iL oI at h;rw [Lib.itoa_nonneg,Lib.itoa_nonneg] at h;injection h with _ h;exact ZG u v h
theorem aeO{u v:Nat}(h:jg u=jg v):u=v:=by
 unfold jg oI at h;rw [Lib.itoa_nonneg,Lib.itoa_nonneg] at h;injection h with _ h;exact ZG u v h
def EO:List (Nat×Nat)->Nat->Option Nat
 | [],_=>none
 | (i,a)::l,j=>bif Nat.beq i j then some a else EO l j
def Hf(defs:List (Nat×Nat)):List (Nat×Nat)->Option (List (Nat×Nat))
 | []=>some []
 | (j,p)::l=>match EO defs j with
  | none=>none
  | some t=>match Hf defs l with
   | none=>none
   | some r=>some ((p,t)::r)
def xM(p:Nat×Nat):Nm×Int:=(jg p.1,(p.2:Int))
def Ve(p:Nat×Nat):Int×Int:=((p.1:Int),(p.2:Int))
theorem PO(j:Nat):∀(l:List (Nat×Nat)),gJ (l.map xM) (jg j)=(EO l j).map fun a=>(a:Int)
 | []=>rfl
 | (i,a)::l=>by
  have ih:=PO j l;unfold gJ at ih ⊢;simp only [List.map_cons,List.find?_cons,EO];by_cases e:i=j
  . subst e
    have:Nat.beq i i=true:=Xi.beq_iff.2 rfl;rw [this];simp [xM]
  . have h1 : Nat.beq i j=false := by
     cases h:Nat.beq i j with
     | false=>rfl
     | true=>exact absurd (Xi.beq_iff.1 h) e
    have h2:((xM (i,a)).1==jg j)=false:=by
     simp only [xM,beq_eq_false_iff_ne];exact fun h=>e (aeO h)
    rw [h1,h2];exact ih
theorem aeP(defs:List (Nat×Nat)):∀(uses fx:List (Nat×Nat)),Hf defs uses=some fx->mP (defs.map xM) (uses.map xM)=.ok (fx.map Ve)
 | [],fx,h=>by
  unfold Hf at h;injection h with h;subst h;rfl
 | (j,p)::l,fx,h=>by
  unfold Hf at h
  cases hf:EO defs j with
  | none=>rw [hf] at h; cases h
  | some t =>
   rw [hf] at h;simp only [] at h
   cases hr:Hf defs l with
   | none=>rw [hr] at h; cases h
   | some r =>
    rw [hr] at h;injection h with h;subst h;have ih:=aeP defs l r hr
    have e:gJ (defs.map xM) (xM (j,p)).1=some (t:Int):=by
     show gJ _ (jg j)=_;rw [PO,hf];rfl
    show (match gJ (defs.map xM) (xM (j,p)).1 with
     | none=>Except.error (xM (j,p)).1
     | some t=>match mP (defs.map xM) (l.map xM) with
      | .error e=>.error e
      | .ok l=>.ok (((xM (j,p)).2,t)::l))=_
    rw [e,ih];rfl
def Vf (s:KS):Option (List Int):=match Hf s.rd.reverse s.ru.reverse with
 | some fx=>bif Nat.ble s.rc.length 16384 then some (uP (fx.map Ve) s.rc.reverse) else none
 | none=>none
theorem aoT{s:KS}{l:List Int}(h:Vf s=some l):Lp s.bm=(l,[],0):=by
 unfold Vf at h
 cases hf:Hf s.rd.reverse s.ru.reverse with
 | none=>rw [hf] at h; cases h
 | some fx =>
  rw [hf] at h;simp only [] at h
  cases hb:Nat.ble s.rc.length 16384 with
  | false=>rw [hb] at h; cases h
  | true =>
   rw [hb] at h;injection h with h;subst h;have hb:=Xi.bn.1 hb;have hx:=aeP _ _ _ hf;unfold Lp;rw [show s.bm.defs=s.rd.reverse.map xM from rfl,show s.bm.uses=s.ru.reverse.map xM from rfl];rw [hx];simp only [];rw [if_neg (by show ¬ 16384<s.rc.reverse.length; rw [List.length_reverse]; omega)];rfl
end Ab

namespace Ab
open Go Go.Proofs.YtjmojlhnmkjdkaaGreatDoor Xi
def fB {β:Type}:Bool->(Bool->β)->β
 | true,k=>k true
 | false,k=>k false
theorem atF{β:Type}(b:Bool)(k:Bool->β):fB b k=k b:=by cases b<;>rfl
def KS.can(s:KS)(n:Nat):Bool:=Nat.ble (s.used+n) 2048&&(Nat.ble s.names 99990&&Nat.ble s.nc 799980)
section
variable {β:Type}
def opR(s:KS)(op a b:Nat)(no:β)(k:Nat->KS->β):β:=bif s.can 1&&(Nat.ble 1 op&&(Nat.ble op 30&&(Nat.blt a s.used&&Nat.blt b s.used))) then(match s with
 | ⟨rc,nc,rd,ru,rr,used,rs,names,data,cons,rt,nt,depth,ri,ro⟩ =>
  fB (jK ⟨rc,nc,rd,ru,rr,used,rs,names,data,cons,rt,nt,depth,ri,ro⟩ a||jK ⟨rc,nc,rd,ru,rr,used,rs,names,data,cons,rt,nt,depth,ri,ro⟩ b) fun sec =>
  fN (used+1) fun used'=>fN (names+1) fun names'=>Tr.jG 20 rs used (some sec) fun rs' =>
  bif Nat.ble op 23 then fN (nc+4) fun nc'=>k used ⟨⟨35,3,0,0,used⟩::⟨op,3,1,2,0⟩::⟨34,2,0,0,b⟩::⟨34,1,0,0,a⟩::rc,nc',rd,ru,(names',1,sec)::rr,used',rs',names',data,cons,rt,nt,depth,ri,ro⟩
  else fN (nc+3) fun nc'=>k used ⟨⟨35,3,0,0,used⟩::⟨op,3,1,0,0⟩::⟨34,1,0,0,a⟩::rc,nc',rd,ru,(names',1,sec)::rr,used',rs',names',data,cons,rt,nt,depth,ri,ro⟩) else no
def TG(s:KS)(v:Nat)(no:β)(k:Nat->KS->β):β:=bif s.can 1&&Nat.ble v 2048 then(match s with
 | ⟨rc,nc,rd,ru,rr,used,rs,names,data,cons,rt,nt,depth,ri,ro⟩ =>
  fN (used+1) fun used'=>fN (names+1) fun names'=>Tr.jG 20 rs used (some true) fun rs'=>fN (nc+2) fun nc' =>
  k used ⟨⟨35,1,0,0,used⟩::⟨34,1,0,0,v⟩::rc,nc',rd,ru,(names',1,true)::rr,used',rs',names',data,cons,rt,nt,depth,ri,ro⟩) else no
def aie(s:KS)(c v:Nat)(no:β)(k:KS->β):β:=bif s.can 0&&(Nat.ble v 2048&&Nat.ble c 2048) then(match s with
 | ⟨rc,nc,rd,ru,rr,used,rs,names,data,cons,rt,nt,depth,ri,ro⟩=>fN (nc+2) fun nc' =>
  k ⟨⟨35,1,0,0,c⟩::⟨34,1,0,0,v⟩::rc,nc',rd,ru,rr,used,rs,names,data,cons,rt,nt,depth,ri,ro⟩) else no
def Vg(s:KS)(n:Int)(no:β)(k:Nat->KS->β):β:=bif s.can 1 then(match s with
 | ⟨rc,nc,rd,ru,rr,used,rs,names,data,cons,rt,nt,depth,ri,ro⟩=>match zl cons n with
  | some a=>fN a fun a=>k a ⟨rc,nc,rd,ru,rr,used,rs,names,data,cons,rt,nt,depth,ri,ro⟩
  | none=>fN (used+1) fun used'=>fN (names+1) fun names'=>Tr.jG 20 rs used (some false) fun rs' =>
   k used ⟨rc,nc,rd,ru,(names',1,false)::rr,used',rs',names',(used,n)::data,(n,used)::cons,rt,nt,depth,ri,ro⟩) else no
def aif(s:KS)(n:Nat)(no:β)(k:KS->β):β:=bif s.can 1&&(Nat.ble 1 n&&(Nat.ble n 32767&&Nat.ble s.depth 10)) then(match s with
 | ⟨rc,nc,rd,ru,rr,used,rs,names,data,cons,rt,nt,depth,ri,ro⟩ =>
  fN (used+1) fun used'=>fN (names+1) fun names'=>fN (names'+1) fun names2=>Tr.jG 20 rs used (some false) fun rs'=>fN (nc+2) fun nc2=>fN (nc+3) fun nc'=>fN (8+2*depth) fun c=>fN (9+2*depth) fun l=>fN (depth+1) fun depth' =>
  k ⟨⟨35,c,0,0,used⟩::⟨31,l,0,0,n⟩::⟨31,c,0,0,0⟩::rc,nc',(names2,nc2)::rd,ru,(names',1,false)::rr,used',rs',names2,data,cons,rt,nt,depth',ri,ro⟩) else no
def aii(s:KS)(depth:Nat)(name:Nat)(no:β)(k:KS->β):β:=bif Nat.beq s.depth (depth+1)&&Nat.ble s.nc 799980 then(match s with
 | ⟨rc,nc,rd,ru,rr,used,rs,names,data,cons,rt,nt,_,ri,ro⟩=>fN (nc+2) fun nc'=>fN (nc+1) fun nc1=>fN (8+2*depth) fun c=>fN (9+2*depth) fun l=>fN name fun name =>
  k ⟨⟨38,c,l,0,0⟩::⟨31,c,c,0,1⟩::rc,nc',rd,(name,nc1)::ru,rr,used,rs,names,data,cons,rt,nt,depth,ri,ro⟩) else no
theorem jX{γ:Type}{c:Bool}{x:Option γ}{y:γ}(h:(bif c then x else none)=some y):c=true/\x=some y:=by
 cases c with
 | true=>exact⟨rfl,h⟩
 | false=>cases h
end
section
variable {γ:Type} {y:γ}
theorem aoV{s:KS}{op a b:Nat}{k:Nat->KS->Option γ}(h:opR s op a b none k=some y):s.can 1=true/\1<=op/\op<=30/\a<s.used/\b<s.used/\k s.used (s.op op a b)=some y:=by
 unfold opR at h;obtain⟨hc,h⟩:=jX h;simp only [Bool.and_eq_true,bn,aI] at hc;obtain⟨h1,h2,h3,h4,h5⟩:=hc;refine⟨h1,h2,h3,h4,h5,?_⟩;obtain⟨rc,nc,rd,ru,rr,used,rs,names,data,cons,rt,nt,depth,ri,ro⟩:=s;simp only [atF,dG,dY] at h
 have e:o7 (jK ⟨rc,nc,rd,ru,rr,used,rs,names,data,cons,rt,nt,depth,ri,ro⟩ a||jK ⟨rc,nc,rd,ru,rr,used,rs,names,data,cons,rt,nt,depth,ri,ro⟩ b) 1 used rs=Tr.set 20 rs used (some (jK ⟨rc,nc,rd,ru,rr,used,rs,names,data,cons,rt,nt,depth,ri,ro⟩ a||jK ⟨rc,nc,rd,ru,rr,used,rs,names,data,cons,rt,nt,depth,ri,ro⟩ b)):=by
  unfold o7;rw [dY];rfl
 by_cases h23:op<=23
 . rw [show Nat.ble op 23=true from bn.2 h23] at h
   simp only [cond_true] at h;rw [<- e] at h;rw [<- h];unfold KS.op;simp only [h23,if_true];rfl
 . rw [show Nat.ble op 23=false from by cases hb:Nat.ble op 23 with | false=>rfl | true=>exact absurd (bn.1 hb) h23] at h
   simp only [cond_false] at h;rw [<- e] at h;rw [<- h];unfold KS.op;simp only [h23,if_false];rfl
theorem Je(b:Bool)(a:Nat)(t:Tr Bool):o7 b 1 a t=Tr.set 20 t a (some b):=by
 unfold o7;rw [dY];rfl
theorem Vh{s:KS}{v:Nat}{k:Nat->KS->Option γ}(h:TG s v none k=some y):s.can 1=true/\v<=2048/\k s.used (s.cell v)=some y:=by
 unfold TG at h;obtain⟨hc,h⟩:=jX h;simp only [Bool.and_eq_true,bn] at hc;refine⟨hc.1,hc.2,?_⟩;obtain⟨rc,nc,rd,ru,rr,used,rs,names,data,cons,rt,nt,depth,ri,ro⟩:=s;simp only [dG,dY,<- Je] at h;exact h
theorem aml{s:KS}{c v:Nat}{k:KS->Option γ}(h:aie s c v none k=some y):s.can 0=true/\v<=2048/\c<=2048/\k (s.set c v)=some y:=by
 unfold aie at h;obtain⟨hc,h⟩:=jX h;simp only [Bool.and_eq_true,bn] at hc;refine⟨hc.1,hc.2.1,hc.2.2,?_⟩;obtain⟨rc,nc,rd,ru,rr,used,rs,names,data,cons,rt,nt,depth,ri,ro⟩:=s;simp only [dG] at h;exact h
theorem aeQ{s:KS}{n:Int}{k:Nat->KS->Option γ}(h:Vg s n none k=some y):s.can 1=true/\k (s.const n).1 (s.const n).2=some y:=by
 unfold Vg at h;obtain⟨hc,h⟩:=jX h;refine⟨hc,?_⟩;obtain⟨rc,nc,rd,ru,rr,used,rs,names,data,cons,rt,nt,depth,ri,ro⟩:=s;simp only [] at h;unfold KS.const
 cases hf:zl cons n with
 | some a=>simp only [hf,dG] at h ⊢; exact h
 | none =>
  simp only [hf,dG,dY,<- Je] at h ⊢;exact h
theorem amm{s:KS}{n:Nat}{k:KS->Option γ}(h:aif s n none k=some y):s.can 1=true/\1<=n/\n<=32767/\s.depth<=10/\k (s.GN n)=some y:=by
 unfold aif at h;obtain⟨hc,h⟩:=jX h;simp only [Bool.and_eq_true,bn] at hc;refine⟨hc.1,hc.2.1,hc.2.2.1,hc.2.2.2,?_⟩;obtain⟨rc,nc,rd,ru,rr,used,rs,names,data,cons,rt,nt,depth,ri,ro⟩:=s;simp only [dG,dY,<- Je] at h;exact h
theorem amn{s:KS}{d name:Nat}{k:KS->Option γ}(h:aii s d name none k=some y):s.depth=d+1/\s.nc<=799980/\k (s.fin name)=some y:=by
 unfold aii at h;obtain⟨hc,h⟩:=jX h;simp only [Bool.and_eq_true,bn,beq_iff] at hc;refine⟨hc.1,hc.2,?_⟩;obtain⟨rc,nc,rd,ru,rr,used,rs,names,data,cons,rt,nt,depth,ri,ro⟩:=s;have hd:depth=d+1:=hc.1;subst hd;simp only [dG] at h;unfold KS.fin;rw [show 8+2*d=6+2*(d+1) by omega,show 9+2*d=7+2*(d+1) by omega] at h;exact h
end
end Ab

namespace Ab
open Go Go.Proofs.YtjmojlhnmkjdkaaGreatDoor Xi
section
variable {β:Type}
def zT:List Int->Nat->List (Nat×Int)->(List (Nat×Int)->β)->β
 | [],_,d,k=>k d
 | x::l,a,d,k=>fN (a+1) fun a'=>zT l a' ((a,x)::d) k
def VL (b:Bool):Nat->Nat->Tr Bool->(Tr Bool->β)->β
 | 0,_,t,k=>k t
 | n+1,a,t,k=>Tr.jG 20 t a (some b) fun t'=>fN (a+1) fun a'=>VL b n a' t' k
def TK:List Int->Bool
 | []=>true
 | x::l=>(Lit.int .i32 x).wf&&TK l
def VN(s:KS)(l:List Int)(no:β)(k:Nat->KS->β):β:=bif s.can l.length&&(Nat.ble 1 l.length&&TK l) then(match s with
 | ⟨rc,nc,rd,ru,rr,used,rs,names,data,cons,rt,nt,depth,ri,ro⟩ =>
  fN l.length fun n=>fN (used+n) fun used'=>fN (names+1) fun names'=>fN (nt+1) fun nt'=>VL false n used rs fun rs'=>zT l used data fun data' =>
  k nt ⟨rc,nc,rd,ru,(names',n,false)::rr,used',rs',names',data',cons,used::rt,nt',depth,ri,ro⟩) else no
def atR(s:KS)(t i:Nat)(no:β)(k:Nat->KS->β):β:=bif s.can 1&&Nat.ble i 2048 then(match s with
 | ⟨rc,nc,rd,ru,rr,used,rs,names,data,cons,rt,nt,depth,ri,ro⟩=>match nth rt.reverse t with
  | some a=>bif Nat.ble a 2048 then(fN a fun a=>fN (used+1) fun used'=>fN (names+1) fun names'=>Tr.jG 20 rs used (some true) fun rs'=>fN (nc+3) fun nc' =>
   k used ⟨⟨35,2,0,0,used⟩::⟨34,2,1,0,a⟩::⟨34,1,0,0,i⟩::rc,nc',rd,ru,(names',1,true)::rr,used',rs',names',data,cons,rt,nt,depth,ri,ro⟩) else no
  | none=>no) else no
theorem ZN:∀(l:List Int) (a:Nat) (d:List (Nat×Int)) (k:List (Nat×Int)->β),zT l a d k=k (qQ l a d)
 | [],a,d,k=>rfl
 | x::l,a,d,k=>by
  unfold zT;rw [dG,ZN l];rfl
theorem P8(b:Bool):∀(n a:Nat) (t:Tr Bool) (k:Tr Bool->β),VL b n a t k=k (o7 b n a t)
 | 0,a,t,k=>rfl
 | n+1,a,t,k=>by
  unfold VL o7;simp only [dY,dG];exact P8 b n _ _ k
theorem Rt:∀ {l:List Int},TK l=true->∀ x∈l,(Lit.int .i32 x).wf=true
 | [],_,x,hx=>by simp at hx
 | y::l,h,x,hx=>by
  unfold TK at h;simp only [Bool.and_eq_true] at h;rcases List.mem_cons.1 hx with rfl | hx
  . exact h.1
  . exact Rt h.2 x hx
end
section
variable {γ:Type} {y:γ}
theorem afl{s:KS}{l:List Int}{k:Nat->KS->Option γ}(h:VN s l none k=some y):s.can l.length=true/\1<=l.length/\(∀ x∈l,(Lit.int .i32 x).wf=true)/\k s.nt (s.table l)=some y:=by
 unfold VN at h;obtain⟨hc,h⟩:=jX h;simp only [Bool.and_eq_true,bn] at hc;refine⟨hc.1,hc.2.1,Rt hc.2.2,?_⟩;obtain⟨rc,nc,rd,ru,rr,used,rs,names,data,cons,rt,nt,depth,ri,ro⟩:=s;simp only [dG,P8,ZN] at h;exact h
theorem ap7{s:KS}{t i:Nat}{k:Nat->KS->Option γ}(h:atR s t i none k=some y):s.can 1=true/\i<=2048/\∃ a,s.rt.reverse[t]?=some a/\a<=2048/\k s.used (s.at_ t i)=some y:=by
 unfold atR at h;obtain⟨hc,h⟩:=jX h;simp only [Bool.and_eq_true,bn] at hc;refine⟨hc.1,hc.2,?_⟩;obtain⟨rc,nc,rd,ru,rr,used,rs,names,data,cons,rt,nt,depth,ri,ro⟩:=s;simp only [nD] at h;show ∃ a,rt.reverse[t]?=some a/\_
 cases hr:rt.reverse[t]? with
 | none=>rw [hr] at h; cases h
 | some a =>
  rw [hr] at h;simp only [] at h;obtain⟨ha,h⟩:=jX h;refine⟨a,rfl,bn.1 ha,?_⟩;simp only [dG,dY,<- Je] at h;unfold KS.at_;simp only [KS.load,KS.ins,List.getD_eq_getElem?_getD,hr,Option.getD_some];exact h
end
end Ab

namespace Ab
open Go Go.Proofs.YtjmojlhnmkjdkaaGreatDoor Xi
section
variable {β:Type}
def ab_:List Nat->Nat->List aW->Nat->(List aW->Nat->β)->β
 | [],_,rc,nc,k=>k rc nc
 | v::l,a,rc,nc,k=>fN (a+1) fun a'=>fN (nc+2) fun nc'=>ab_ l a' (⟨35,1,0,0,a⟩::⟨34,1,0,0,v⟩::rc) nc' k
def TL:List Nat->Bool
 | []=>true
 | v::l=>Nat.ble v 2048&&TL l
def acd(s:KS)(l:List Nat)(no:β)(k:Nat->KS->β):β:=bif s.can l.length&&(Nat.ble 1 l.length&&(TL l&&Nat.ble (s.nc+2*l.length) 799980)) then(match s with
 | ⟨rc,nc,rd,ru,rr,used,rs,names,data,cons,rt,nt,depth,ri,ro⟩ =>
  fN l.length fun n=>fN (used+n) fun used'=>fN (names+1) fun names'=>fN (nt+1) fun nt'=>VL true n used rs fun rs'=>ab_ l used rc nc fun rc' nc' =>
  k nt ⟨rc',nc',rd,ru,(names',n,true)::rr,used',rs',names',data,cons,used::rt,nt',depth,ri,ro⟩) else no
def lF:List Nat->Nat->List aW->List aW
 | [],_,rc=>rc
 | v::l,a,rc=>lF l (a+1) (⟨35,1,0,0,a⟩::⟨34,1,0,0,v⟩::rc)
theorem ZO:∀(l:List Nat) (a:Nat) (rc:List aW) (nc:Nat) (k:List aW->Nat->β),ab_ l a rc nc k=k (lF l a rc) (nc+2*l.length)
 | [],a,rc,nc,k=>rfl
 | v::l,a,rc,nc,k=>by
  unfold ab_;rw [dG,dG,ZO l];show k _ (nc+2+2*l.length)=k _ (nc+2*(l.length+1));rw [show nc+2+2*l.length=nc+2*(l.length+1) by omega];rfl
theorem AP:∀(l:List Nat) (a:Nat) (s:KS),rM l a s={ s with rc:=lF l a s.rc,nc:=s.nc+2*l.length }
 | [],a,s=>rfl
 | v::l,a,s=>by
  show rM l (a+1) (s.set a v)=_;rw [AP l];show KS.mk _ (s.nc+1+1+2*l.length) _ _ _ _ _ _ _ _ _ _ _ _ _=KS.mk _ (s.nc+2*(l.length+1)) _ _ _ _ _ _ _ _ _ _ _ _ _;rw [show s.nc+1+1+2*l.length=s.nc+2*(l.length+1) by omega];rfl
theorem Rw:∀ {l:List Nat},TL l=true->∀ v∈l,v<=2048
 | [],_,v,hv=>by simp at hv
 | y::l,h,v,hv=>by
  unfold TL at h;simp only [Bool.and_eq_true,bn] at h;rcases List.mem_cons.1 hv with rfl | hv
  . exact h.1
  . exact Rw h.2 v hv
end
section
variable {γ:Type} {y:γ}
theorem aiA{s:KS}{l:List Nat}{k:Nat->KS->Option γ}(h:acd s l none k=some y):s.can l.length=true/\1<=l.length/\(∀ v∈l,v<=2048)/\s.nc+2*l.length<=799980/\k s.nt (s.fill l)=some y:=by
 unfold acd at h;obtain⟨hc,h⟩:=jX h;simp only [Bool.and_eq_true,bn] at hc;refine⟨hc.1,hc.2.1,Rw hc.2.2.1,hc.2.2.2,?_⟩;obtain⟨rc,nc,rd,ru,rr,used,rs,names,data,cons,rt,nt,depth,ri,ro⟩:=s;simp only [dG,P8,ZO] at h;unfold KS.fill;rw [AP];exact h
