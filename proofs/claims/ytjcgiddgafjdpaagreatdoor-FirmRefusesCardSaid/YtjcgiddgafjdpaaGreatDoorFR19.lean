/- Texts of this claim, side by side: ModelH, ModelI, ModelK. -/
import Derived.Test.YtjcgiddgafjdpaaGreatDoorFR18
import Derived.Lib.SlicesS
/- The reference's Feed: what it makes of a state and twenty bytes. -/
namespace Go.Proofs.YtjcgiddgafjdpaaGreatDoor.Xi
open Go Go.RowKit Go.Deep
set_option linter.unusedVariables false
structure St where
 q:Q4
 s:Int
 f:Int
 g:Int
def St.val (x:St):Value:=stV x.q.a x.q.b x.q.c x.q.d x.s x.f x.g
def St.right (x:St):Prop:=in16 x.s∧in16 x.f∧in16 x.g
def xI (xs:List Nat) (i:Nat):Int:=(xs.getD i 0:Nat)
def St.next (x:St) (xs:List Nat):St:=bif sumOk xs 18 then ⟨nextK x.q.a x.q.b x.q.c x.q.d (xI xs),(x.s + 1) % 65536,x.f,(x.g + 1) % 65536⟩ else ⟨x.q,(x.s + 1) % 65536,min (x.f + 1) 65535,x.g⟩
def flN (xs:List Nat):Int:=bif sumOk xs 18 then nextF (xI xs) else 1
def St.frame (x:St) (fl:Int):List Nat:=frameN x.q.a x.q.b x.q.c x.q.d x.s x.f x.g fl
theorem inc16 {x:Int} (h:in16 x):in16 ((x + 1) % 65536):=by unfold in16 at *; omega
theorem St.next_right {x:St} (h:x.right) (xs:List Nat):(x.next xs).right:=by
 obtain ⟨h1,h2,h3⟩:=h
 unfold St.next
 cases sumOk xs 18 with
 | true => exact ⟨inc16 h1,h2,inc16 h3⟩
 | false => exact ⟨inc16 h1,by simp only [cond_false]; unfold in16 at *; omega,h3⟩
theorem nextF_in (B:Nat→Int):0≤nextF B∧nextF B≤7:=by
 unfold nextF flagsI flagI
 split <;> split <;> omega
theorem flN_in (xs:List Nat):0≤flN xs∧flN xs≤7:=by
 unfold flN
 cases sumOk xs 18 with
 | true => exact nextF_in _
 | false => simp
theorem bstr_list:∀ (l:List Nat) (b:ByteArray),((nI l).foldl (fun r n => r.push (UInt8.ofNat n.toNat)) b).data.toList = b.data.toList ++ l.map UInt8.ofNat
 | [],b => by simp [nI]
 | x :: l,b => by
  show ((nI l).foldl _ (b.push (UInt8.ofNat ((x:Int).toNat)))).data.toList = _
  rw [bstr_list l]
  simp [ByteArray.push]
theorem bstr_nat (l:List Nat):bstr (nI l) = ⟨(l.map UInt8.ofNat).toArray⟩:=by
 unfold bstr
 have h:=bstr_list l ByteArray.empty
 apply ByteArray.ext
 apply Array.ext'
 rw [h]
 simp
theorem u8_inj {a b:Nat} (ha:a < 256) (hb:b < 256) (h:UInt8.ofNat a = UInt8.ofNat b):a = b:=by
 have:=congrArg UInt8.toNat h
 simp at this
 omega
theorem u8l_inj:∀ {l m:List Nat},(∀ x∈l,x < 256)→(∀ x∈m,x < 256)→l.map UInt8.ofNat = m.map UInt8.ofNat→l = m
 | [],[],_,_,_ => rfl
 | [],_ :: _,_,_,h => by cases h
 | _ :: _,[],_,_,h => by cases h
 | x :: l,y :: m,hl,hm,h => by
  simp only [List.map_cons,List.cons.injEq] at h
  rw [u8_inj (hl x (by simp)) (hm y (by simp)) h.1,u8l_inj (fun z hz => hl z (by simp [hz])) (fun z hz => hm z (by simp [hz])) h.2]
theorem bstr_eq {l m:List Nat} (hl:∀ x∈l,x < 256) (hm:∀ x∈m,x < 256):((bstr (nI l)).toList == (bstr (nI m)).toList) = decide (l = m):=by
 by_cases h:l = m
 · subst h; simp
 · rw [decide_eq_false h,Lib.bytes_beq_false_iff]
   intro e
   rw [bstr_nat,bstr_nat] at e
   injection e with e
   exact h (u8l_inj hl hm (by simpa using congrArg Array.toList e))
theorem t_sneq (T:TypeId) (a b:ByteArray):PrOk Tryz.prog (.bin .neq T) [.string a,.string b] (.bool (!(a.toList == b.toList))):=fun x y w => by simp [eqGuard,binOp,Op.stringOp]
theorem sealN_lt {l:List Nat} (h:∀ x∈l,x < 256):∀ x∈sealN l,x < 256:=fun x hx => by
 have:=foldN_lt (c:=65535) (by decide) l
 unfold sealN at hx
 rcases List.mem_append.1 hx with hx | hx
 · exact h x hx
 · simp at hx
   omega
theorem good_u8s {xs:List Nat} (hx:∀ x∈xs,x < 256):goodL (u8s xs):=fun v hv => by
 obtain ⟨x,hm,rfl⟩:=List.mem_map.1 hv
 have:=hx x hm
 exact good_u8' (by omega)
def St.i64 (x:St):Prop:=(-9223372036854775808≤x.s∧x.s≤9223372036854775807)∧(-9223372036854775808≤x.f∧x.f≤9223372036854775807)∧(-9223372036854775808≤x.g∧x.g≤9223372036854775807)
theorem nil_sl (w:World):Sl w (.slice none 0 0) (u8s []):=⟨none,0,rfl,Nat.le_refl _,fun h => absurd h (by simp [u8s])⟩
end Go.Proofs.YtjcgiddgafjdpaaGreatDoor.Xi
