/- A core and its memory as one: New, Poke, Run, Load, State, Cycles, Marks, Begin. -/
import Derived.Test.YtjmojlhnmkjdkaaGreatDoorCoreSD
import Derived.Test.YtjmojlhnmkjdkaaGreatDoorDP7
set_option linter.unusedVariables false
namespace Go.Proofs.YtjmojlhnmkjdkaaGreatDoor
open Go Go.RowKit Go.Deep Go.Maps Ab
attribute [local go_sem] Oper.semAt_some
def fK (w:World) (c:Nat) (words:List Nat) (s:CS) (ws:List Int) (F:List Nat):Prop :=
 ∃ b r cv mv,CM w c b r cv mv (rowsOf words) s ws/\F=mF c b r cv mv/\∀ k∈F,11<=k
theorem anm(mem:List Wd):jo (vN mem)=kZ:=by
 unfold jo vN kZ;simp [nS];exact jl (by unfold aB; omega)
theorem aq8 (mem:List Wd):Kq (vN mem):=⟨by simp [vN],by simp [vN],by simp [vN],by simp [vN]⟩
section
variable {w w':World} {c:Nat} {words:List Nat} {s:CS} {ws:List Int} {F D:List Nat}
theorem fK.lt(h:fK w c words s ws F):∀ k∈F,k<w.heap.size:=by
 obtain⟨b,r,cv,mv,h,rfl,_⟩:=h;intro k hk;simp only [mF,gB,List.mem_append,List.mem_cons,List.not_mem_nil,or_false,Option.mem_toList] at hk;rcases hk with(rfl | rfl) | rfl | hk | hk
 . exact h.yM.head.lt
 . exact h.yM.row.lt
 . exact h.core.blk.lt
 . exact(h.core.uY.lt k hk).2
 . exact(h.core.yH.lt k hk).2
theorem fK.aj (h:fK w c words s ws F) (hc:ah w w' D) (hD:∀ k∈F,k∉D) (hG:∀ k∈D,11<=k):fK w' c words s ws F:=by
 obtain⟨b,r,cv,mv,h,rfl,hq⟩:=h;exact⟨b,r,cv,mv,h.aj hc hD (fun hm=>absurd (hG _ hm) (by decide)),rfl,hq⟩
theorem fK.bJ (h:fK w c words s ws F) (hc:ah w w' []):fK w' c words s ws F:=h.aj hc (by simp) (by simp)
theorem fK.high (h:fK w c words s ws F):∀ k∈F,11<=k:=by
 obtain⟨b,r,cv,mv,h,rfl,hq⟩:=h;exact hq
theorem acP(hg:oh w)(A A2:Option Addr)(cp cp2:Nat)(words:List Nat)(data:List Int)(hs:Sl w (.slice A words.length cp) (jH (words.map fun n:Nat=>(n:Int))))(hd:Sl w (.slice A2 data.length cp2) (bG data))
 (henc:(words.map iI).map encI=words.map fun n:Nat=>(n:Int)) (hchk:∀ i∈words.map iI,jV i=0) (hl:words.length<=16384) (hdl:data.length<=2048) :
 Calls Tryz.prog 23 #[.slice A words.length cp,.slice A2 data.length cp2] w fun e w'=>∃ c F,e=.returned (.tuple #[.pointer (some ⟨c,0,none⟩),.int .i64 0])/\ah w w' []/\fK w' c words kZ data F/\∀ k∈F,w.heap.size<=k:=by
 have hlen:(words.map iI).length=words.length:=List.length_map ..;have:=acK A cp (words.map iI) (by rw [hlen,henc]; exact hs) hchk (by rw [hlen]; exact hl) A2 cp2 data hdl hd;rw [hlen] at this;refine this.mono ?_;rintro e w' ⟨c,b,r,cv,rfl,hc,hcb,hr,hb1,hr1,hf1⟩;have hz:=hg.size
 have hq:∀ k∈mF c b r cv (.slice none 0 0),w.heap.size<=k:=fun k hk=>by
  simp only [mF,List.mem_append,List.mem_cons,List.not_mem_nil,or_false] at hk;rcases hk with(rfl | rfl) | hk
  . exact hb1
  . exact hr1
  . exact hf1 k hk
 have hgl:3<w.heap.size:=Nat.lt_of_lt_of_le (by decide) hz;have hrows:sQ (words.map iI)=rowsOf words:=by unfold sQ rowsOf; rw [List.map_map]; rfl
 rw [hrows] at hcb;exact⟨c,_,rfl,hc,⟨b,r,cv,_,⟨hcb,hr,⟨(hg.aj hc (by simp)).cost,Nat.lt_of_lt_of_le hgl hc.size,fun hm=>by have:=hf1 _ hm; omega⟩,by omega,by omega⟩,rfl,fun k hk=>Nat.le_trans hz (hq k hk)⟩,hq⟩
theorem Dn(h:fK w c words s ws F)(a:Nat)(x:Int)(ha:a<ws.length) :
 Calls Tryz.prog 26 #[.pointer (some ⟨c,0,none⟩),.int .i64 (a:Int),.int .i32 x] w fun e w'=>e=.returned (.bool true)/\ah w w' F/\fK w' c words s (ws.set a x) F:=by
 obtain⟨b,r,cv,mv,h,rfl,hq⟩:=h;refine(acJ h a x ha).mono ?_;rintro e w' ⟨rfl,hc,hm⟩;exact⟨rfl,hc.more (fun k hk=>.inl (by simp at hk; simp [mF,hk])),b,r,cv,mv,hm,rfl,hq⟩
theorem Y7(h:fK w c words s ws F)(a:Nat)(x:Int)(ha:ws[a]?=some x) :
 Calls Tryz.prog 29 #[.pointer (some ⟨c,0,none⟩),.int .i64 (a:Int)] w fun e w'=>e=.returned (.tuple #[.int .i32 x,.bool true])/\ah w w' []:=by
 obtain⟨b,r,cv,mv,h,rfl,hq⟩:=h;exact YX h a x ha
theorem S9(h:fK w c words s ws F):Calls Tryz.prog 36 #[.pointer (some ⟨c,0,none⟩)] w fun e w'=>e=.returned (.int .i64 s.cost)/\w=w':=by
 obtain⟨b,r,cv,mv,h,rfl,hq⟩:=h;exact SS h.core
theorem W9(h:fK w c words s ws F)(h0:0<s.marks.length)(hl:s.marks.length<=1048576) :
 Calls Tryz.prog 31 #[.pointer (some ⟨c,0,none⟩)] w fun e w'=>∃ v',e=.returned v'/\ah w w' []/\w'.ownsRow w.heap.size 82 3 v' s.marks.length (ig s.marks):=by
 obtain⟨b,r,cv,mv,h,rfl,hq⟩:=h;exact WZ h.core h0 hl
theorem Ba(h:fK w c words s ws F):Calls Tryz.prog 27 #[.pointer (some ⟨c,0,none⟩)] w fun e w'=>e=.returned (.tuple #[])/\ah w w' F/\∃ F',Sub F' F w/\fK w' c words kZ ws F':=by
 obtain⟨b,r,cv,mv,h,rfl,hq⟩:=h;refine(Y3 h).mono ?_;rintro e w' ⟨rfl,hc,hm⟩
 have hsub:∀ k∈mF c b r cv (.slice none 0 0),k∈mF c b r cv mv:=fun k hk=>by
  simp only [mF,gB,List.mem_append] at hk ⊢;rcases hk with hk | hk | hk | hk
  . exact .inl hk
  . exact .inr (.inl hk)
  . exact .inr (.inr (.inl hk))
  . simp [Value.ownBlock] at hk
 exact⟨rfl,hc.more (fun k hk=>.inl (by simp at hk; simp [mF,gB,hk])),_,fun k hk=>.inl (hsub k hk),b,r,cv,_,hm,rfl,fun k hk=>hq k (hsub k hk)⟩
theorem acQ(h:fK w c words kZ ws F)(hz:11<=w.heap.size){mem:List Wd}(hm:mem.map (·.v)=ws){N:Nat}{m':Ma}(hr:Ab.Reach (Nx words) N (vN mem) m')(hst:m'.st=1)(hl:words.length<=60000)(hN:N<=1048000) :
 Calls Tryz.prog 28 #[.pointer (some ⟨c,0,none⟩),.int .i64 1048576] w fun e w'=>(∃ n,e=.returned (.int .i64 n))/\ah w w' F/\∃ F',Sub F' F w/\fK w' c words (jo m') (oz m') F':=by
 obtain⟨b,r,cv,mv,h,rfl,hq⟩:=h
 have h':CM w c b r cv mv (rowsOf words) (jo (vN mem)) (oz (vN mem)):=by
  rw [anm];show CM w c b r cv mv (rowsOf words) kZ (mem.map (·.v))
  rw [hm];exact h
 refine(ai5 (fuel:=1048576) h' (aq8 mem) rfl hr hst hl hN (Nat.le_refl _) (by omega)).mono ?_;rintro e w' ⟨rfl,hc,mv',hmv,hcm⟩
 have hsub:Sub (mF c b r cv mv') (mF c b r cv mv) w:=fun k hk=>by
  simp only [mF,gB,List.mem_append,Option.mem_toList] at hk ⊢;rcases hk with hk | hk | hk | hk
  . exact .inl (.inl hk)
  . exact .inl (.inr (.inl hk))
  . exact .inl (.inr (.inr (.inl hk)))
  . rcases hmv with e | ⟨g,e,hg⟩
    . rw [e] at hk
      exact .inl (.inr (.inr (.inr hk)))
    . rw [e] at hk
      injection hk with hk;exact .inr (hk▸hg)
 refine⟨⟨_,rfl⟩,hc.more (fun k hk=>.inl ?_),_,hsub,b,r,cv,mv',hcm,rfl,fun k hk=>?_⟩
 . simp only [mF,gB,List.mem_append,List.mem_cons,List.not_mem_nil,or_false] at hk ⊢
   rcases hk with(hk | hk) | hk
   . exact .inr (.inl hk)
   . exact .inl (.inr hk)
   . exact .inr (.inr (.inr hk))
 . rcases hsub k hk with h1 | h1
   . exact hq k h1
   . omega
