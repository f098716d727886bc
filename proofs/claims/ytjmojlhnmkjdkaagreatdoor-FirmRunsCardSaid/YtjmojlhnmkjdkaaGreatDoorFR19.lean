/- Texts of this claim, side by side. -/
import Derived.Test.YtjmojlhnmkjdkaaGreatDoorFR18
import Derived.Lib.SlicesS
set_option linter.unusedVariables false
namespace Go.Proofs.YtjmojlhnmkjdkaaGreatDoor.Xi
open Go Go.RowKit Go.Deep
structure St where
 q:Q4
 s:Int
 f:Int
 g:Int
def St.val (x:St):Value:=stV x.q.a x.q.b x.q.c x.q.d x.s x.f x.g
def St.right (x:St):Prop:=iI x.s/\iI x.f/\iI x.g
def xI (xs:List Nat) (i:Nat):Int:=(xs.getD i 0:Nat)
def St.next (x:St) (xs:List Nat):St:=bif u_ xs 18 then ⟨nextK x.q.a x.q.b x.q.c x.q.d (xI xs),(x.s+1) % 65536,x.f,(x.g+1) % 65536⟩ else ⟨x.q,(x.s+1) % 65536,min (x.f+1) 65535,x.g⟩
def iq (xs:List Nat):Int:=bif u_ xs 18 then qB (xI xs) else 1
def St.frame (x:St) (fl:Int):List Nat:=agp x.q.a x.q.b x.q.c x.q.d x.s x.f x.g fl
theorem rP {x:Int} (h:iI x):oC x=(x+1) % 65536:=by
 unfold iI at h;unfold oC;rw [show IntKind.i64.wrap (x+1)=x+1 by rw [IntKind.wrap_i64]; omega,JA (by omega),IntKind.wrap_i64];omega
theorem JC {x:Int} (h:iI x):iI ((x+1) % 65536):=by unfold iI at *; omega
theorem St.FU {x:St} (h:x.right) (xs:List Nat):(x.next xs).right:=by
 obtain ⟨h1,h2,h3⟩:=h;unfold St.next
 cases u_ xs 18 with
 | true=>exact ⟨JC h1,h2,JC h3⟩
 | false=>exact ⟨JC h1,by simp only [cond_false]; unfold iI at *; omega,h3⟩
theorem XR (B:Nat->Int):0<=qB B/\qB B<=7:=by
 unfold qB vC OH;split<;>split<;>omega
theorem Bj (xs:List Nat):0<=iq xs/\iq xs<=7:=by
 unfold iq
 cases u_ xs 18 with
 | true=>exact XR _
 | false=>simp
theorem RH:∀ (l:List Nat) (b:ByteArray),((nI l).foldl (fun r n=>r.push (UInt8.ofNat n.toNat)) b).data.toList=b.data.toList ++ l.map UInt8.ofNat
 | [],b=>by simp [nI]
 | x :: l,b=>by
  show ((nI l).foldl _ (b.push (UInt8.ofNat ((x:Int).toNat)))).data.toList=_;rw [RH l];simp [ByteArray.push]
theorem XT (l:List Nat):tJ (nI l)=⟨(l.map UInt8.ofNat).toArray⟩:=by
 unfold tJ;have h:=RH l ByteArray.empty;apply ByteArray.ext;apply Array.ext';rw [h];simp
theorem arR {a b:Nat} (ha:a < 256) (hb:b < 256) (h:UInt8.ofNat a=UInt8.ofNat b):a=b:=by
 have:=congrArg UInt8.toNat h;simp at this;omega
theorem aaJ:∀ {l m:List Nat},(∀ x∈l,x < 256)->(∀ x∈m,x < 256)->l.map UInt8.ofNat=m.map UInt8.ofNat->l=m
 | [],[],_,_,_=>rfl
 | [],_ :: _,_,_,h=>by cases h
 | _ :: _,[],_,_,h=>by cases h
 | x :: l,y :: m,hl,hm,h=>by
  simp only [List.map_cons,List.cons.injEq] at h;rw [arR (hl x (by simp)) (hm y (by simp)) h.1,aaJ (fun z hz=>hl z (by simp [hz])) (fun z hz=>hm z (by simp [hz])) h.2]
theorem aaK {l m:List Nat} (hl:∀ x∈l,x < 256) (hm:∀ x∈m,x < 256):((tJ (nI l)).toList==(tJ (nI m)).toList)=decide (l=m):=by
 by_cases h:l=m
 . subst h; simp
 . rw [decide_eq_false h,Lib.bytes_beq_false_iff]
   intro e;rw [XT,XT] at e;injection e with e;exact h (aaJ hl hm (by simpa using congrArg Array.toList e))
theorem agD (T:TypeId) (a b:ByteArray):uI Tryz.prog (.bin .neq T) [.string a,.string b] (.bool (!(a.toList==b.toList))):=fun x y w=>by simp [eqGuard,binOp,Op.stringOp]
theorem anK {xs:List Nat} (h:xs.length=20):xs=xs.take 18 ++ [xs.getD 18 0,xs.getD 19 0]:=by
 match xs,h with
 | [x0,x1,x2,x3,x4,x5,x6,x7,x8,x9,x10,x11,x12,x13,x14,x15,x16,x17,x18,x19],_=>rfl
theorem ajQ {xs:List Nat} (h:xs.length=20):decide (rM (xs.take 18)=xs)=u_ xs 18:=by
 have e:=anK h;unfold u_
 have:(rM (xs.take 18)=xs)↔(jk 65535 (xs.take 18) / 256=xs.getD 18 0/\jk 65535 (xs.take 18) % 256=xs.getD 19 0):=by
  conv=>lhs; rhs; rw [e]
  unfold rM;simp
 rw [decide_eq_decide.2 this,Bool.decide_and];rfl
theorem agE {xs:List Nat} (h:xs.length=20):front (xI xs) 18=nI (xs.take 18)/\front (xI xs) 20=nI xs:=by
 match xs,h with
 | [x0,x1,x2,x3,x4,x5,x6,x7,x8,x9,x10,x11,x12,x13,x14,x15,x16,x17,x18,x19],_=>exact ⟨rfl,rfl⟩
theorem LU {l:List Nat} (h:∀ x∈l,x < 256):∀ x∈rM l,x < 256:=fun x hx=>by
 have:=WE (c:=65535) (by decide) l;unfold rM at hx;rcases List.mem_append.1 hx with hx | hx
 . exact h x hx
 . simp at hx
   omega
theorem anL {xs:List Nat} (h:xs.length=20) (hx:∀ x∈xs,x < 256):kY Tryz.prog (ajP (xI xs) (!u_ xs 18)):=by
 have h1:=agD 9 (tJ (CG (front (xI xs) 18))) (tJ (front (xI xs) 20));obtain ⟨e1,e2⟩:=agE h;have e3:=aaK (l:=rM (xs.take 18)) (m:=xs) (LU fun x hx'=>hx x (List.mem_of_mem_take hx')) hx;rw [ajQ h] at e3;have:((tJ (CG (front (xI xs) 18))).toList==(tJ (front (xI xs) 20)).toList)=u_ xs 18:=by rw [e1,e2,xX,e3]
 rw [this] at h1;exact h1
theorem arS {xs:List Nat} (h:xs.length=20):vb (xI xs) 20=fJ xs:=by
 match xs,h with
 | [x0,x1,x2,x3,x4,x5,x6,x7,x8,x9,x10,x11,x12,x13,x14,x15,x16,x17,x18,x19],_=>rfl
theorem XU {xs:List Nat} (hx:∀ x∈xs,x < 256):fC (fJ xs):=fun v hv=>by
 obtain ⟨x,hm,rfl⟩:=List.mem_map.1 hv;have:=hx x hm;exact LK (by omega)
theorem adz {x:St} (h:x.right) {xs:List Nat} (hl:xs.length=20) (hx:∀ y∈xs,y < 256):fC (xg x.q.a x.q.b x.q.c x.q.d x.s x.f x.g (xI xs)):=fun v hv=>by
 obtain ⟨h1,h2,h3⟩:=h;unfold xg at hv;rw [arS hl] at hv;exact (List.mem_append.1 hv).elim (XP (zM h1) (zM h2) (zM h3) v) (XU hx v)
theorem agF (a b c d:Wd) (s f g:Int) {xs:List Nat} (hl:xs.length=20):au (dX (xg a b c d s f g (xI xs))) (bQ 20 7)=fJ xs:=by
 match xs,hl with
 | [x0,x1,x2,x3,x4,x5,x6,x7,x8,x9,x10,x11,x12,x13,x14,x15,x16,x17,x18,x19],_=>rfl
theorem ajR {r p y:Wd} {s f g:Int} (hs:iI s) (hf:iI f) (hg:iI g):∀ ob∈ady (jl r) (jl p) (jl y) s f g,kF Tryz.prog ug ob:=by
 have w:∀ x:Wd,-32768<=IntKind.i64.wrap (jl x)/\IntKind.i64.wrap (jl x)<=32767:=fun x=>by have:=wdB x; rw [LQ,IntKind.wrap_i64]; omega
 unfold ady;exact qA (qA (qA (qA (qA (oz hg.1 hg.2) (oz hf.1 hf.2)) (oz hs.1 hs.2)) (oz (w y).1 (w y).2)) (oz (w p).1 (w p).2)) (oz (w r).1 (w r).2)
theorem zH (a b c d:Wd) {s f g:Int} (hs:iI s) (hf:iI f) (hg:iI g):kY Tryz.prog (Ed a b c d s f g true):=fun w=>by
 have:=XQ a b c d s f g (XP (zM hs) (zM hf) (zM hg)) w;rw [(adu s f g).2 ⟨hs,hf,hg⟩] at this;exact this
def St.i64 (x:St):Prop:=(-9223372036854775808<=x.s/\x.s<=9223372036854775807)/\(-9223372036854775808<=x.f/\x.f<=9223372036854775807)/\(-9223372036854775808<=x.g/\x.g<=9223372036854775807)
theorem arT (w:World):Sl w (.slice none 0 0) (fJ []):=⟨none,0,rfl,Nat.le_refl _,fun h=>absurd h (by simp [fJ])⟩
