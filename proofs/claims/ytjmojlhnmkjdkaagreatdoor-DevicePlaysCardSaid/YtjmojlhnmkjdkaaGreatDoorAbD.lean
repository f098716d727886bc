/- Ab: runs of a core's code with values that are known, or numbered, told by the kernel: each operation that reckons is an event. Code, registers and memory are one number each. No program is in sight. -/
import Derived.Test.YtjmojlhnmkjdkaaGreatDoorXiUD
set_option linter.unusedVariables false
namespace Go.Proofs.YtjmojlhnmkjdkaaGreatDoor.Ab
open Go Xi
structure Ev where
 op:Nat
 x:Nat
 y:Nat
structure Mk where
 pc:Nat
 ad:Nat
 co:Nat
inductive St where
 | go (pc ns rg mm:Nat) (T:List Ev) (M:List Mk)
 | done (pc ns mm:Nat) (T:List Ev) (M:List Mk)
 | bad
def fP{β:Type}(n:Nat)(k:Nat->β):β:=match Nat.add n 1 with | 0=>k 0 | m+1=>k m
@[simp] theorem zk {β:Type} (n:Nat) (k:Nat->β):fP n k=k n:=rfl
def gY (w:Nat):Nat:=Nat.shiftRight w 26
def dN (w:Nat):Nat:=Nat.land (Nat.shiftRight w 21) 31
def aN (w:Nat):Nat:=Nat.land (Nat.shiftRight w 16) 31
def bN (w:Nat):Nat:=Nat.land (Nat.shiftRight w 11) 31
def nN (w:Nat):Nat:=Nat.land w 65535
def dS (N k:Nat):Nat:=Nat.land (Nat.shiftRight N (Nat.mul 34 k)) 17179869183
def EM (N k v:Nat):Nat:=Nat.xor N (Nat.shiftLeft (Nat.xor (dS N k) v) (Nat.mul 34 k))
def wordAt (code pc:Nat):Nat:=Nat.land (Nat.shiftRight code (Nat.mul 32 pc)) 4294967295
def Aj (c:Nat):Bool:=Nat.beq (Nat.land c 1) 0
def Vb (c:Nat) (k:Nat->St):St:=bif Aj c then fP (Nat.div c 2) k else .bad
def rJ (ad:Nat):Nat:=bif Nat.blt ad 1024 then 2 else 3
def Vd (nm w pc ns rg mm:Nat) (T:List Ev) (M:List Mk) (sw:Bool):St :=
 fP (dS rg (aN w)) fun ra=>Vb ra fun v=>fP (Nat.add v (nN w)) fun ad=>bif Nat.blt ad nm then
  (bif sw then fP (EM mm ad (dS rg (dN w))) fun mm=>fP (Nat.add pc 1) fun pc'=>.go pc' ns rg mm T (⟨pc,Nat.succ ad,rJ ad⟩::M)
    else fP (dN w) fun d=>bif Nat.beq d 0 then .bad else fP (EM rg d (dS mm ad)) fun rg=>fP (Nat.add pc 1) fun pc'=>.go pc' ns rg mm T (⟨pc,Nat.succ ad,rJ ad⟩::M)) else .bad
def TF (w pc ns rg mm:Nat) (T:List Ev) (M:List Mk):St :=
 fP (dS rg (aN w)) fun ra=>Vb ra fun v=>fP (Nat.add v (nN w)) fun s=>fP (dN w) fun d=>bif Nat.blt s 32768&&!Nat.beq d 0 then
  fP (EM rg d (Nat.mul 2 s)) fun rg=>fP (Nat.add pc 1) fun pc'=>.go pc' ns rg mm T (⟨pc,0,1⟩::M) else .bad
def abB (w pc ns rg mm:Nat) (T:List Ev) (M:List Mk):St :=
 fP (dS rg (dN w)) fun rd=>Vb rd fun x=>fP (dS rg (aN w)) fun ra=>Vb ra fun y=>bif Nat.blt x 32768&&Nat.blt y 32768 then
  (bif Nat.blt x y then fP (nN w) fun pc'=>.go pc' ns rg mm T (⟨pc,0,3⟩::M) else fP (Nat.add pc 1) fun pc'=>.go pc' ns rg mm T (⟨pc,0,1⟩::M)) else .bad
def Dc (op:Nat):Bool:=Nat.beq (Nat.land (Nat.shiftRight 0x7717EFFE op) 1) 1
def pG(op:Nat):Nat:=bif Nat.blt 17 op&&Nat.blt op 22 then 3 else 1
def abC (op w pc ns rg mm:Nat) (T:List Ev) (M:List Mk):St :=
 bif Dc op&&Nat.blt ns 8000000 then fP (dS rg (aN w)) fun x=>fP (dS rg (bN w)) fun y=>fP (dN w) fun d=>bif Nat.beq d 0 then .bad else
  fP (EM rg d (Nat.add (Nat.mul 2 ns) 1)) fun rg=>fP (Nat.add pc 1) fun pc'=>fP (Nat.add ns 1) fun ns'=>.go pc' ns' rg mm (⟨op,x,y⟩::T) (⟨pc,0,pG op⟩::M) else .bad
def exA (nm w op pc ns rg mm:Nat) (T:List Ev) (M:List Mk):St :=
 bif Nat.beq op 34 then Vd nm w pc ns rg mm T M false else
 bif Nat.beq op 35 then Vd nm w pc ns rg mm T M true else
 bif Nat.beq op 31 then TF w pc ns rg mm T M else
 bif Nat.beq op 38 then abB w pc ns rg mm T M else
 bif Nat.beq op 43 then .done pc ns mm T (⟨pc,0,1⟩::M) else
 abC op w pc ns rg mm T M
def BL (code nc nm:Nat) (s:St):St:=match s with
 | .go pc ns rg mm T M=>bif Nat.blt pc nc then fP (wordAt code pc) fun w=>fP (gY w) fun op=>exA nm w op pc ns rg mm T M else .bad
 | .done pc ns mm T M=>.done pc ns mm T M
 | .bad=>.bad
def qP (code nc nm:Nat):Nat->St->St
 | 0,s=>BL code nc nm s
 | k+1,s=>qP code nc nm k (qP code nc nm k s)
def EN (code nc nm:Nat):List Nat->St->St
 | [],s=>s
 | k::l,s=>EN code nc nm l (qP code nc nm k s)
def akT (ns mem:Nat):St:=.go 0 ns 0 mem [] []
