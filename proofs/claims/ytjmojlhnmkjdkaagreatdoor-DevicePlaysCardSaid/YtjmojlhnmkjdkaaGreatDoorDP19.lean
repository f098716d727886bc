/- Texts of this claim, side by side. -/
import Derived.Test.YtjmojlhnmkjdkaaGreatDoorDP18
import Derived.Lib.SlicesS
set_option linter.unusedVariables false
namespace Go.Proofs.YtjmojlhnmkjdkaaGreatDoor.Xi
open Go Go.RowKit Go.Deep
structure St where
 q:Q4
 s:Int
 f:Int
 g:Int
def St.val (x:St):Value:=Gx x.q.a x.q.b x.q.c x.q.d x.s x.f x.g
def St.right (x:St):Prop:=iJ x.s/\iJ x.f/\iJ x.g
def xI (xs:List Nat) (i:Nat):Int:=(xs.getD i 0:Nat)
def St.next(x:St)(xs:List Nat):St:=bif ny xs 18 then⟨nextK x.q.a x.q.b x.q.c x.q.d (xI xs),(x.s+1)%65536,x.f,(x.g+1)%65536⟩ else⟨x.q,(x.s+1)%65536,min (x.f+1) 65535,x.g⟩
def jT (xs:List Nat):Int:=bif ny xs 18 then qA (xI xs) else 1
def St.frame (x:St) (fl:Int):List Nat:=agN x.q.a x.q.b x.q.c x.q.d x.s x.f x.g fl
theorem rY{x:Int}(h:iJ x):nZ x=(x+1)%65536:=by
 unfold iJ at h;unfold nZ;rw [show IntKind.i64.wrap (x+1)=x+1 by rw [IntKind.wrap_i64]; omega,JJ (by omega),IntKind.wrap_i64];omega
theorem JL{x:Int}(h:iJ x):iJ ((x+1)%65536):=by unfold iJ at *; omega
theorem St.zG {x:St} (h:x.right) (xs:List Nat):(x.next xs).right:=by
 obtain⟨h1,h2,h3⟩:=h;unfold St.next
 cases ny xs 18 with
 | true=>exact⟨JL h1,h2,JL h3⟩
 | false=>exact⟨JL h1,by simp only [cond_false]; unfold iJ at *; omega,h3⟩
theorem X6 (B:Nat->Int):0<=qA B/\qA B<=7:=by
 unfold qA vG OY;split<;>split<;>omega
theorem IC (xs:List Nat):0<=jT xs/\jT xs<=7:=by
 unfold jT
 cases ny xs 18 with
 | true=>exact X6 _
 | false=>simp
theorem Si:∀(l:List Nat) (b:ByteArray),((nI l).foldl (fun r n=>r.push (UInt8.ofNat n.toNat)) b).data.toList=b.data.toList++l.map UInt8.ofNat
 | [],b=>by simp [nI]
 | x::l,b=>by
  show((nI l).foldl _ (b.push (UInt8.ofNat ((x:Int).toNat)))).data.toList=_;rw [Si l];simp [ByteArray.push]
theorem X7(l:List Nat):Aa (nI l)=⟨(l.map UInt8.ofNat).toArray⟩:=by
 unfold Aa;have h:=Si l ByteArray.empty;apply ByteArray.ext;apply Array.ext';rw [h];simp
theorem asl{a b:Nat}(ha:a<256)(hb:b<256)(h:UInt8.ofNat a=UInt8.ofNat b):a=b:=by
 have:=congrArg UInt8.toNat h;simp at this;omega
theorem aaR:∀ {l m:List Nat},(∀ x∈l,x<256)->(∀ x∈m,x<256)->l.map UInt8.ofNat=m.map UInt8.ofNat->l=m
 | [],[],_,_,_=>rfl
 | [],_::_,_,_,h=>by cases h
 | _::_,[],_,_,h=>by cases h
 | x::l,y::m,hl,hm,h=>by
  simp only [List.map_cons,List.cons.injEq] at h;rw [asl (hl x (by simp)) (hm y (by simp)) h.1,aaR (fun z hz=>hl z (by simp [hz])) (fun z hz=>hm z (by simp [hz])) h.2]
theorem aoc{l m:List Nat}(hl:∀ x∈l,x<256)(hm:∀ x∈m,x<256):((Aa (nI l)).toList==(Aa (nI m)).toList)=decide (l=m):=by
 by_cases h:l=m
 . subst h; simp
 . rw [decide_eq_false h,Lib.bytes_beq_false_iff]
   intro e;rw [X7,X7] at e;injection e with e;exact h (aaR hl hm (by simpa using congrArg Array.toList e))
theorem asn(T:TypeId)(a b:ByteArray):uJ Tryz.prog (.bin .neq T) [.string a,.string b] (.bool (!(a.toList==b.toList))):=fun x y w=>by simp [eqGuard,binOp,Op.stringOp]
theorem aod{xs:List Nat}(h:xs.length=20):xs=xs.take 18++[xs.getD 18 0,xs.getD 19 0]:=by
 match xs,h with
 | [x0,x1,x2,x3,x4,x5,x6,x7,x8,x9,x10,x11,x12,x13,x14,x15,x16,x17,x18,x19],_=>rfl
theorem akj{xs:List Nat}(h:xs.length=20):decide (vk (xs.take 18)=xs)=ny xs 18:=by
 have e:=aod h;unfold ny
 have:(vk (xs.take 18)=xs)↔(bP 65535 (xs.take 18) / 256=xs.getD 18 0/\bP 65535 (xs.take 18)%256=xs.getD 19 0):=by
  conv=>lhs; rhs; rw [e]
  unfold vk;simp
 rw [decide_eq_decide.2 this,Bool.decide_and];rfl
theorem agZ{xs:List Nat}(h:xs.length=20):front (xI xs) 18=nI (xs.take 18)/\front (xI xs) 20=nI xs:=by
 match xs,h with
 | [x0,x1,x2,x3,x4,x5,x6,x7,x8,x9,x10,x11,x12,x13,x14,x15,x16,x17,x18,x19],_=>exact⟨rfl,rfl⟩
theorem X8{l:List Nat}(h:∀ x∈l,x<256):∀ x∈vk l,x<256:=fun x hx=>by
 have:=FM (c:=65535) (by decide) l;unfold vk at hx;rcases List.mem_append.1 hx with hx | hx
 . exact h x hx
 . simp at hx
   omega
theorem aoe{xs:List Nat}(h:xs.length=20)(hx:∀ x∈xs,x<256):lJ Tryz.prog (aki (xI xs) (!ny xs 18)):=by
 have h1:=asn 9 (Aa (JI (front (xI xs) 18))) (Aa (front (xI xs) 20));obtain⟨e1,e2⟩:=agZ h;have e3:=aoc (l:=vk (xs.take 18)) (m:=xs) (X8 fun x hx'=>hx x (List.mem_of_mem_take hx')) hx;rw [akj h] at e3;have:((Aa (JI (front (xI xs) 18))).toList==(Aa (front (xI xs) 20)).toList)=ny xs 18:=by rw [e1,e2,IB,e3]
 rw [this] at h1;exact h1
theorem aso{xs:List Nat}(h:xs.length=20):vb (xI xs) 20=bU xs:=by
 match xs,h with
 | [x0,x1,x2,x3,x4,x5,x6,x7,x8,x9,x10,x11,x12,x13,x14,x15,x16,x17,x18,x19],_=>rfl
theorem X9{xs:List Nat}(hx:∀ x∈xs,x<256):eP (bU xs):=fun v hv=>by
 obtain⟨x,hm,rfl⟩:=List.mem_map.1 hv;have:=hx x hm;exact Md (by omega)
theorem adH{x:St}(h:x.right){xs:List Nat}(hl:xs.length=20)(hx:∀ y∈xs,y<256):eP (xB x.q.a x.q.b x.q.c x.q.d x.s x.f x.g (xI xs)):=fun v hv=>by
 obtain⟨h1,h2,h3⟩:=h;unfold xB at hv;rw [aso hl] at hv;exact(List.mem_append.1 hv).elim (MC (rX h1) (rX h2) (rX h3) v) (X9 hx v)
theorem ag0(a b c d:Wd)(s f g:Int){xs:List Nat}(hl:xs.length=20):ay (dV (xB a b c d s f g (xI xs))) (bQ 20 7)=bU xs:=by
 match xs,hl with
 | [x0,x1,x2,x3,x4,x5,x6,x7,x8,x9,x10,x11,x12,x13,x14,x15,x16,x17,x18,x19],_=>rfl
theorem akk {r p y:Wd} {s f g:Int} (hs:iJ s) (hf:iJ f) (hg:iJ g):∀ ob∈adG (ji r) (ji p) (ji y) s f g,kF Tryz.prog gZ ob:=by
 have w:∀ x:Wd,-32768<=IntKind.i64.wrap (ji x)/\IntKind.i64.wrap (ji x)<=32767:=fun x=>by have:=wdB x; rw [MF,IntKind.wrap_i64]; omega
 unfold adG;exact qx (qx (qx (qx (qx (nY hg.1 hg.2) (nY hf.1 hf.2)) (nY hs.1 hs.2)) (nY (w y).1 (w y).2)) (nY (w p).1 (w p).2)) (nY (w r).1 (w r).2)
theorem zH(a b c d:Wd){s f g:Int}(hs:iJ s)(hf:iJ f)(hg:iJ g):lJ Tryz.prog (Ee a b c d s f g true):=fun w=>by
 have:=Iz a b c d s f g (MC (rX hs) (rX hf) (rX hg)) w;rw [(O1 s f g).2 ⟨hs,hf,hg⟩] at this;exact this
def St.i64 (x:St):Prop:=(-9223372036854775808<=x.s/\x.s<=9223372036854775807)/\(-9223372036854775808<=x.f/\x.f<=9223372036854775807)/\(-9223372036854775808<=x.g/\x.g<=9223372036854775807)
theorem IE(w:World):Sl w (.slice none 0 0) (bU []):=⟨none,0,rfl,Nat.le_refl _,fun h=>absurd h (by simp [bU])⟩
