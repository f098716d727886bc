/- The firm's laws: rows as they are handed in; what the firm refuses. -/
import Derived.Test.YtjcgiddgafjdpaaGreatDoorFR21
import Derived.Test.YtjcgiddgafjdpaaGreatDoorByteRows
namespace Go.Proofs.YtjcgiddgafjdpaaGreatDoor
open Go Go.RowKit Go.Deep Go.Maps Go.Proofs.YtjcgiddgafjdpaaGreatDoor.Ab Go.Proofs.YtjcgiddgafjdpaaGreatDoor.Xi
set_option linter.unusedVariables false
attribute [local go_sem] Oper.semAt_some
theorem open_rows2 {H:Type} {enc:TypeId × Value→H} {P:Program} {w:World} {base:Nat} {held:Bool} {t e u:TypeId} {fuel:Nat} {a0:Option Addr} {n c:Nat} {x:DataW H × List MemPlace}
 (ht:P.underlying t = some (.slice e)) (he:P.underlying e = some (.slice u)) (hu:P.underlying u = some (.int .u8)) (hC:P.cellsOf u = 1) (hE:P.cellsOf e = 1)
 (h:DataW.trod enc P w base (fun _ => true) held fuel t [.slice a0 n c] = some x):n≤c∧c≤maxLen∧Xi.BRows w a0 n:=by
 obtain ⟨h1,h2,_⟩:=open_elems ht hE (by omega) h
 exact ⟨h1,h2,(Xi.open_rows ht he hu hC hE h).2⟩
theorem rows_of {w:World} {A:Option Addr} {n c:Nat} (hc:n≤c) (hR:Xi.BRows w A n):∃ ls:List (List Nat),Rows w (.slice A n c) ls∧ls.length = n∧∀ b∈ls,∀ y∈b,y < 256:=by
 by_cases h0:0 < n
 · obtain ⟨b,off,rfl,hall⟩:=hR h0
   have hp:∀ i:Nat,∃ p:Value × List Nat,i < n→w.cell? ⟨b,off + i,Option.none⟩ = some p.1∧Sl w p.1 (u8s p.2)∧∀ y∈p.2,y < 256:=fun i => by
    by_cases hi:i < n
    · obtain ⟨v,hv,A,l,cc,xs,rfl,hs,hl,hm,hb⟩:=hall i hi
      exact ⟨(_,xs),fun _ => ⟨hv,hs,hb⟩⟩
    · exact ⟨(undef,[]),fun h => absurd h hi⟩
   obtain ⟨f,hf⟩:=Classical.axiomOfChoice hp
   have hat:∀ {α:Type} (g:Nat→α) (i:Nat) (r:α),((List.range n).map g)[i]? = some r→i < n∧g i = r:=fun g i r h => by
    have hi:i < n:=by have:=(List.getElem?_eq_some_iff.1 h).1; simpa using this
    rw [List.getElem?_map,List.getElem?_range hi] at h
    exact ⟨hi,Option.some.inj h⟩
   refine ⟨(List.range n).map fun i => (f i).2,⟨(List.range n).map fun i => (f i).1,⟨some ⟨b,off,Option.none⟩,c,by simp,by simpa using hc,fun _ => ⟨b,off,rfl,fun k hk => ?_⟩⟩,by simp,fun i r l hr hl => ?_⟩,by simp,fun l hl => ?_⟩
   · have hk':k < n:=by simpa using hk
     rw [(hf k hk').1,List.getElem?_map,List.getElem?_range hk']
     rfl
   · obtain ⟨hi,rfl⟩:=hat _ i r hr
     obtain ⟨_,rfl⟩:=hat _ i l hl
     exact (hf i hi).2.1
   · obtain ⟨i,hi,rfl⟩:=List.mem_map.1 hl
     exact (hf i (List.mem_range.1 hi)).2.2
 · obtain rfl:n = 0:=by omega
   exact ⟨[],⟨[],⟨A,c,rfl,Nat.zero_le _,fun h => absurd h (by simp)⟩,rfl,fun i r b h => by simp at h⟩,rfl,by simp⟩
theorem firmRefuses_calls {w:World} (hg:Glo w) {A:Option Addr} {c:Nat} {ls:List (List Nat)} (h:Rows w (.slice A ls.length c) ls) :
 Calls Tryz.prog 3 #[.slice A ls.length c] w fun e w' => e = .returned (.bool true)∧Chg w w' []:=by
 have ha:=awake38_calls hg
 by_cases h12:ls.length≤12
 · have k1:decide ((ls.length:Int) > 12) = false:=by simp; omega
   by_cases hall:∀ b∈ls,b.length = 20
   · have hr:=right38_yes h hall h12
     clear h hg hall h12
     go_enter Tryz.func3,Tryz.ntmps3
     go_wp2_with fail
     go_at_call 7
     refine hr.mono ?_
     rintro e w1 ⟨rfl,rfl⟩
     clear hr
     go_wp2_with fail
     go_at_call 8
     refine ha.mono ?_
     rintro e w2 ⟨rfl,hc⟩
     have HC:=hide hc
     clear ha hc
     go_wp2
     go_ret
     exact ⟨rfl,HC.out⟩
   · obtain ⟨b0, hb0, hb⟩ : ∃ b0, b0 ∈ ls ∧ b0.length ≠ 20 := by
      refine Classical.byContradiction fun hn => hall fun b hb => Classical.byContradiction fun h => hn ⟨b,hb,h⟩
     obtain ⟨p,hp⟩:=List.mem_iff_getElem?.1 hb0
     have hr:=right38_no h hp hb h12
     have hu:=frun_bad h hp hb h12
     clear h hg hall h12 hp hb hb0
     go_enter Tryz.func3,Tryz.ntmps3
     go_wp2_with fail
     go_at_call 7
     refine hr.mono ?_
     rintro e w1 ⟨rfl,rfl⟩
     clear hr
     go_wp2_with fail
     go_at_call 9
     refine hu.mono ?_
     rintro e w1 ⟨rfl,rfl⟩
     clear hu
     go_wp2_with fail
     go_at_call 8
     refine ha.mono ?_
     rintro e w2 ⟨rfl,hc⟩
     have HC:=hide hc
     clear ha hc
     go_wp2
     go_ret
     exact ⟨rfl,HC.out⟩
 · have k1:decide ((ls.length:Int) > 12) = true:=by simp; omega
   clear h hg h12
   go_enter Tryz.func3,Tryz.ntmps3
   go_wp2_with fail
   go_at_call 8
   refine ha.mono ?_
   rintro e w2 ⟨rfl,hc⟩
   have HC:=hide hc
   clear ha hc
   go_wp2
   go_ret
   exact ⟨rfl,HC.out⟩
end Go.Proofs.YtjcgiddgafjdpaaGreatDoor
