/- Texts of this claim, side by side: ModelH, ModelI, ModelK. -/
import Derived.Test.YtjcgiddgafjdpaaGreatDoorFQ18
import Derived.Lib.SlicesS
/- The reference's Feed: what it makes of a state and twenty bytes. -/
namespace Go.Proofs.YtjcgiddgafjdpaaGreatDoor.Xi
open Go Go.RowKit Go.Deep
set_option linter.unusedVariables false
structure St where
 q:Q4
 s:Int
 f:Int
 g:Int
def St.val (x:St):Value:=stV x.q.a x.q.b x.q.c x.q.d x.s x.f x.g
def St.right (x:St):Prop:=vI x.s∧vI x.f∧vI x.g
def xI (xs:List Nat) (i:Nat):Int:=(xs.getD i 0:Nat)
def St.next (x:St) (xs:List Nat):St:=bif Fq xs 18 then ⟨nextK x.q.a x.q.b x.q.c x.q.d (xI xs),(x.s + 1) % 65536,x.f,(x.g + 1) % 65536⟩ else ⟨x.q,(x.s + 1) % 65536,min (x.f + 1) 65535,x.g⟩
def jf (xs:List Nat):Int:=bif Fq xs 18 then OZ (xI xs) else 1
def St.frame (x:St) (fl:Int):List Nat:=acd x.q.a x.q.b x.q.c x.q.d x.s x.f x.g fl
theorem Zn {x:Int} (h:vI x):vI ((x + 1) % 65536):=by unfold vI at *; omega
theorem St.pz {x:St} (h:x.right) (xs:List Nat):(x.next xs).right:=by
 obtain ⟨h1,h2,h3⟩:=h
 unfold St.next
 cases Fq xs 18 with
 | true => exact ⟨Zn h1,h2,Zn h3⟩
 | false => exact ⟨Zn h1,by simp only [cond_false]; unfold vI at *; omega,h3⟩
theorem ae4 (B:Nat→Int):0≤OZ B∧OZ B≤7:=by
 unfold OZ ab_ Zl
 split <;> split <;> omega
theorem Ap (xs:List Nat):0≤jf xs∧jf xs≤7:=by
 unfold jf
 cases Fq xs 18 with
 | true => exact ae4 _
 | false => simp
theorem ND:∀ (l:List Nat) (b:ByteArray),((nI l).foldl (fun r n => r.push (UInt8.ofNat n.toNat)) b).data.toList = b.data.toList ++ l.map UInt8.ofNat
 | [],b => by simp [nI]
 | x :: l,b => by
  show ((nI l).foldl _ (b.push (UInt8.ofNat ((x:Int).toNat)))).data.toList = _
  rw [ND l]
  simp [ByteArray.push]
theorem TP (l:List Nat):Bg (nI l) = ⟨(l.map UInt8.ofNat).toArray⟩:=by
 unfold Bg
 have h:=ND l ByteArray.empty
 apply ByteArray.ext
 apply Array.ext'
 rw [h]
 simp
theorem amb {a b:Nat} (ha:a < 256) (hb:b < 256) (h:UInt8.ofNat a = UInt8.ofNat b):a = b:=by
 have:=congrArg UInt8.toNat h
 simp at this
 omega
theorem WU:∀ {l m:List Nat},(∀ x∈l,x < 256)→(∀ x∈m,x < 256)→l.map UInt8.ofNat = m.map UInt8.ofNat→l = m
 | [],[],_,_,_ => rfl
 | [],_ :: _,_,_,h => by cases h
 | _ :: _,[],_,_,h => by cases h
 | x :: l,y :: m,hl,hm,h => by
  simp only [List.map_cons,List.cons.injEq] at h
  rw [amb (hl x (by simp)) (hm y (by simp)) h.1,WU (fun z hz => hl z (by simp [hz])) (fun z hz => hm z (by simp [hz])) h.2]
theorem aie {l m:List Nat} (hl:∀ x∈l,x < 256) (hm:∀ x∈m,x < 256):((Bg (nI l)).toList == (Bg (nI m)).toList) = decide (l = m):=by
 by_cases h:l = m
 · subst h; simp
 · rw [decide_eq_false h,Lib.bytes_beq_false_iff]
   intro e
   rw [TP,TP] at e
   injection e with e
   exact h (WU hl hm (by simpa using congrArg Array.toList e))
theorem amc (T:TypeId) (a b:ByteArray):u_ Tryz.prog (.bin .neq T) [.string a,.string b] (.bool (!(a.toList == b.toList))):=fun x y w => by simp [eqGuard,binOp,Op.stringOp]
theorem TQ {l:List Nat} (h:∀ x∈l,x < 256):∀ x∈wU l,x < 256:=fun x hx => by
 have:=O9 (c:=65535) (by decide) l
 unfold wU at hx
 rcases List.mem_append.1 hx with hx | hx
 · exact h x hx
 · simp at hx
   omega
theorem ae5 {xs:List Nat} (hx:∀ x∈xs,x < 256):eG (gX xs):=fun v hv => by
 obtain ⟨x,hm,rfl⟩:=List.mem_map.1 hv
 have:=hx x hm
 exact Ic (by omega)
def St.i64 (x:St):Prop:=(-9223372036854775808≤x.s∧x.s≤9223372036854775807)∧(-9223372036854775808≤x.f∧x.f≤9223372036854775807)∧(-9223372036854775808≤x.g∧x.g≤9223372036854775807)
theorem amd (w:World):Sl w (.slice none 0 0) (gX []):=⟨none,0,rfl,Nat.le_refl _,fun h => absurd h (by simp [gX])⟩
end Go.Proofs.YtjcgiddgafjdpaaGreatDoor.Xi
