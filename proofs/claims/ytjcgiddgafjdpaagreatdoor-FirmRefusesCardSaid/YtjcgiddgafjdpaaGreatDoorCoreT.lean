/- A core and its memory as one: New, Poke, Run, Load, State, Cycles, Marks, Begin. -/
import Derived.Test.YtjcgiddgafjdpaaGreatDoorCoreS
import Derived.Test.YtjcgiddgafjdpaaGreatDoorFR7
import Derived.Test.YtjcgiddgafjdpaaGreatDoorFR13
namespace Go.Proofs.YtjcgiddgafjdpaaGreatDoor
open Go Go.RowKit Go.Deep Go.Maps Go.Proofs.YtjcgiddgafjdpaaGreatDoor.Ab
set_option linter.unusedVariables false
attribute [local go_sem] Oper.semAt_some
def CoreAt (w:World) (c:Nat) (words:List Nat) (s:CS) (ws:List Int) (F:List Nat):Prop :=
 ∃ b r cv mv,CM w c b r cv mv (rowsOf words) s ws∧F = footM c b r cv mv∧∀ k∈F,8≤k
theorem cs00_ma (mem:List Wd):csM (ma0 mem) = cs00:=by
 unfold csM ma0 cs00
 simp [sumC]
 exact kW_v (by unfold In32; omega)
theorem ma0_ok (mem:List Wd):MOk (ma0 mem):=⟨by simp [ma0],by simp [ma0],by simp [ma0],by simp [ma0]⟩
section
variable {w w':World} {c:Nat} {words:List Nat} {s:CS} {ws:List Int} {F D:List Nat}
theorem CoreAt.lt (h:CoreAt w c words s ws F):∀ k∈F,k < w.heap.size:=by
 obtain ⟨b,r,cv,mv,h,rfl,_⟩:=h
 intro k hk
 simp only [footM,footC,List.mem_append,List.mem_cons,List.not_mem_nil,or_false,Option.mem_toList] at hk
 rcases hk with (rfl | rfl) | rfl | hk | hk
 · exact h.ram.head.lt
 · exact h.ram.row.lt
 · exact h.core.blk.lt
 · exact (h.core.rowC.lt k hk).2
 · exact (h.core.rowM.lt k hk).2
theorem CoreAt.chg (h:CoreAt w c words s ws F) (hc:Chg w w' D) (hD:∀ k∈F,k∉D) (hG:∀ k∈D,8≤k):CoreAt w' c words s ws F:=by
 obtain ⟨b,r,cv,mv,h,rfl,hq⟩:=h
 exact ⟨b,r,cv,mv,h.chg hc hD (fun hm => absurd (hG _ hm) (by decide)),rfl,hq⟩
theorem CoreAt.chg0 (h:CoreAt w c words s ws F) (hc:Chg w w' []):CoreAt w' c words s ws F:=h.chg hc (by simp) (by simp)
theorem inew_calls (hg:Glo w) (A A2:Option Addr) (cp cp2:Nat) (words:List Nat) (data:List Int) (hs:Sl w (.slice A words.length cp) (u32s (words.map fun n:Nat => (n:Int)))) (hd:Sl w (.slice A2 data.length cp2) (i32s data))
 (henc:(words.map decN).map encI = words.map fun n:Nat => (n:Int)) (hchk:∀ i∈words.map decN,chkI i = 0) (hl:words.length≤16384) (hdl:data.length≤2048) :
 Calls Tryz.prog 20 #[.slice A words.length cp,.slice A2 data.length cp2] w fun e w' => ∃ c F,e = .returned (.tuple #[.pointer (some ⟨c,0,none⟩),.int .i64 0])∧Chg w w' []∧CoreAt w' c words cs00 data F∧∀ k∈F,w.heap.size≤k:=by
 have hlen:(words.map decN).length = words.length:=List.length_map ..
 have:=cnew_calls A cp (words.map decN) (by rw [hlen,henc]; exact hs) hchk (by rw [hlen]; exact hl) A2 cp2 data hdl hd
 rw [hlen] at this
 refine this.mono ?_
 rintro e w' ⟨c,b,r,cv,rfl,hc,hcb,hr,hb1,hr1,hf1⟩
 have hz:=hg.size
 have hq:∀ k∈footM c b r cv (.slice none 0 0),w.heap.size≤k:=fun k hk => by
  simp only [footM,List.mem_append,List.mem_cons,List.not_mem_nil,or_false] at hk
  rcases hk with (rfl | rfl) | hk
  · exact hb1
  · exact hr1
  · exact hf1 k hk
 have hgl:1 < w.heap.size:=Nat.lt_of_lt_of_le (by decide) hz
 have hrows:okRows (words.map decN) = rowsOf words:=by unfold okRows rowsOf; rw [List.map_map]; rfl
 rw [hrows] at hcb
 exact ⟨c,_,rfl,hc,⟨b,r,cv,_,⟨hcb,hr,⟨(hg.chg hc (by simp)).cost,Nat.lt_of_lt_of_le hgl hc.size,fun hm => by have:=hf1 _ hm; omega⟩,by omega,by omega⟩,rfl,fun k hk => Nat.le_trans hz (hq k hk)⟩,hq⟩
theorem ipoke_calls (h:CoreAt w c words s ws F) (a:Nat) (x:Int) (ha:a < ws.length) :
 Calls Tryz.prog 25 #[.pointer (some ⟨c,0,none⟩),.int .i64 (a:Int),.int .i32 x] w fun e w' => e = .returned (.bool true)∧Chg w w' F∧CoreAt w' c words s (ws.set a x) F:=by
 obtain ⟨b,r,cv,mv,h,rfl,hq⟩:=h
 refine (poke_calls h a x ha).mono ?_
 rintro e w' ⟨rfl,hc,hm⟩
 exact ⟨rfl,hc.more (fun k hk => .inl (by simp at hk; simp [footM,hk])),b,r,cv,mv,hm,rfl,hq⟩
theorem iload_calls (h:CoreAt w c words s ws F) (a:Nat) (x:Int) (ha:ws[a]? = some x) :
 Calls Tryz.prog 28 #[.pointer (some ⟨c,0,none⟩),.int .i64 (a:Int)] w fun e w' => e = .returned (.tuple #[.int .i32 x,.bool true])∧Chg w w' []:=by
 obtain ⟨b,r,cv,mv,h,rfl,hq⟩:=h
 exact cload_calls h a x ha
theorem icycles_calls (h:CoreAt w c words s ws F):Calls Tryz.prog 24 #[.pointer (some ⟨c,0,none⟩)] w fun e w' => e = .returned (.int .i64 s.cost)∧w = w':=by
 obtain ⟨b,r,cv,mv,h,rfl,hq⟩:=h
 exact ccycles_calls h.core
theorem ibegin_calls (h:CoreAt w c words s ws F):Calls Tryz.prog 26 #[.pointer (some ⟨c,0,none⟩)] w fun e w' => e = .returned (.tuple #[])∧Chg w w' F∧∃ F',Sub F' F w∧CoreAt w' c words cs00 ws F':=by
 obtain ⟨b,r,cv,mv,h,rfl,hq⟩:=h
 refine (begin_calls h).mono ?_
 rintro e w' ⟨rfl,hc,hm⟩
 have hsub:∀ k∈footM c b r cv (.slice none 0 0),k∈footM c b r cv mv:=fun k hk => by
  simp only [footM,footC,List.mem_append] at hk ⊢
  rcases hk with hk | hk | hk | hk
  · exact .inl hk
  · exact .inr (.inl hk)
  · exact .inr (.inr (.inl hk))
  · simp [Value.ownBlock] at hk
 exact ⟨rfl,hc.more (fun k hk => .inl (by simp at hk; simp [footM,footC,hk])),_,fun k hk => .inl (hsub k hk),b,r,cv,_,hm,rfl,fun k hk => hq k (hsub k hk)⟩
theorem irun_calls (h:CoreAt w c words cs00 ws F) (hz:8≤w.heap.size) {mem:List Wd} (hm:mem.map (·.v) = ws) {N:Nat} {m':Ma} (hr:Ab.Reach (Nx words) N (ma0 mem) m') (hst:m'.st = 1) (hl:words.length≤60000) (hN:N≤1048000) :
 Calls Tryz.prog 27 #[.pointer (some ⟨c,0,none⟩),.int .i64 1048576] w fun e w' => (∃ n,e = .returned (.int .i64 n))∧Chg w w' F∧∃ F',Sub F' F w∧CoreAt w' c words (csM m') (wsM m') F':=by
 obtain ⟨b,r,cv,mv,h,rfl,hq⟩:=h
 have h':CM w c b r cv mv (rowsOf words) (csM (ma0 mem)) (wsM (ma0 mem)):=by
  rw [cs00_ma]
  show CM w c b r cv mv (rowsOf words) cs00 (mem.map (·.v))
  rw [hm]
  exact h
 refine (run_next (fuel:=1048576) h' (ma0_ok mem) rfl hr hst hl hN (Nat.le_refl _) (by omega)).mono ?_
 rintro e w' ⟨rfl,hc,mv',hmv,hcm⟩
 have hsub:Sub (footM c b r cv mv') (footM c b r cv mv) w:=fun k hk => by
  simp only [footM,footC,List.mem_append,Option.mem_toList] at hk ⊢
  rcases hk with hk | hk | hk | hk
  · exact .inl (.inl hk)
  · exact .inl (.inr (.inl hk))
  · exact .inl (.inr (.inr (.inl hk)))
  · rcases hmv with e | ⟨g,e,hg⟩
    · rw [e] at hk
      exact .inl (.inr (.inr (.inr hk)))
    · rw [e] at hk
      injection hk with hk
      exact .inr (hk ▸ hg)
 refine ⟨⟨_,rfl⟩,hc.more (fun k hk => .inl ?_),_,hsub,b,r,cv,mv',hcm,rfl,fun k hk => ?_⟩
 · simp only [footM,footC,List.mem_append,List.mem_cons,List.not_mem_nil,or_false] at hk ⊢
   rcases hk with (hk | hk) | hk
   · exact .inr (.inl hk)
   · exact .inl (.inr hk)
   · exact .inr (.inr (.inr hk))
 · rcases hsub k hk with h1 | h1
   · exact hq k h1
   · omega
end
end Go.Proofs.YtjcgiddgafjdpaaGreatDoor
