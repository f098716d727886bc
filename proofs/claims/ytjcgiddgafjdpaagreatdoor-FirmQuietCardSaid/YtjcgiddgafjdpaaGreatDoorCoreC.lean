/- The core: what an instruction does. -/
import Derived.Test.YtjcgiddgafjdpaaGreatDoorFQ4
import Derived.Test.YtjcgiddgafjdpaaGreatDoorFQ2
import Derived.BigQuiet
namespace Go.Proofs.YtjcgiddgafjdpaaGreatDoor
open Go.RowKit Go.Deep Go.Maps
set_option linter.unusedVariables false
attribute [local go_sem] Oper.semAt_some
def jV (s:CS) (i:Nat):Int:=s.regs.getD i 0
theorem dU.alloc {s:CS} {c:Nat} {bp cv mv:Value} {code:List (aI × Bool)} {w w1 w':World} (hc:ah w w1 []) (h:dU s c bp cv mv code w1 w'):dU s c bp cv mv code w w':=by
 obtain ⟨hc2,mv',hm,hb⟩:=h
 refine ⟨(hc.more (by simp)).trans hc2 (fun k hk => .inl hk),mv',?_,hb⟩
 rcases hm with h | ⟨g,h,hg⟩
 · exact .inl h
 · exact .inr ⟨g,h,Nat.le_trans hc.size hg⟩
theorem dU.step {s2:CS} {c:Nat} {bp cv mv mv1:Value} {code:List (aI × Bool)} {w w1 w2:World} (hc:ah w w1 ([c] ++ mv.ownBlock.toList)) (hm:mv1.ownBlock = mv.ownBlock∨∃ g,mv1.ownBlock = some g∧w.heap.size≤g) (h2:dU s2 c bp cv mv1 code w1 w2):dU s2 c bp cv mv code w w2:=by
 obtain ⟨hc2,mv2,hm2,hb2⟩:=h2
 refine ⟨hc.trans hc2 (fun k hk => ?_),mv2,?_,hb2⟩
 · simp only [List.mem_append,List.mem_singleton,Option.mem_toList] at hk ⊢
   rcases hk with hk | hk
   · exact .inl (.inl hk)
   · rcases hm with h | ⟨g,h,hg⟩
     · exact .inl (.inr (by rw [← h]; exact hk))
     · rw [h] at hk
       injection hk with hk
       exact .inr (by omega)
 · rcases hm2 with h | ⟨g,h,hg⟩
   · rcases hm with h' | ⟨g',h',hg'⟩
     · exact .inl (h.trans h')
     · exact .inr ⟨g',h.trans h',hg'⟩
   · exact .inr ⟨g,h,Nat.le_trans hc.size hg⟩
theorem Az (s:CS) (i:Nat) (x:Int):(sH s i x).marks = s.marks:=by unfold sH; split <;> rfl
set_option maxRecDepth 100000 in
set_option maxHeartbeats 1000000 in
theorem ZO {w:World} {c:Nat} {bp cv mv:Value} {code:List (aI × Bool)} {s:CS} (h:CB w c bp cv mv code s) (d a:Nat) (n:Int) (hd:d < 32) (ha:a < 32) (hn1:-32768≤n) (hn2:n≤32767) (hm:s.marks.length≤2000000) :
 Calls Tryz.prog 107 #[.pointer (some ⟨c,0,none⟩),aX ⟨31,d,a,0,n⟩] w fun e w' => (∃ v,e = .returned v)∧dU (Py (sH s d (wrap32 (jV s a + n))) 1) c bp cv mv code w w':=by
 have H:=hide h
 have HM:=hide hm
 have hca:=h.blk.cell' (lu h.reg a ha)
 have hlt:=h.blk.lt
 have ha2:(a:Int) < 32:=by omega
 unfold jV
 generalize s.regs.getD a 0 = ra at *
 clear h hm
 unfold aX
 go_enter Tryz.func107,Tryz.ntmps107
 go_wp2
 go_quiet (fail)
 go_wp2_with fail
 go_at_call 174
 have hc0:ah w ((w.alloc (.cells #[.int .i64 31,.int .i64 d,.int .i64 a,.int .i64 0,.int .i64 n] 118)).drewN nq) []:=((ah.refl w []).alloc _).drewN nq
 have kF:=hide hc0
 have HP:=hide (C9 (H.out.aj hc0 (by simp)) d hd (wrap32 (ra + n)))
 have hb5:aC ((w.alloc (.cells #[.int .i64 31,.int .i64 d,.int .i64 a,.int .i64 0,.int .i64 n] 118)).drewN nq) w.heap.size 118 [.int .i64 31,.int .i64 d,.int .i64 a,.int .i64 0,.int .i64 n]:=(aC.new w 118 [.int .i64 31,.int .i64 d,.int .i64 a,.int .i64 0,.int .i64 n]).drewN nq
 have jr:=hide hb5
 have vJ:=hide hlt
 clear hc0 hb5
 refine HP.out.mono ?_
 rintro e w1 ⟨⟨v,rfl⟩,hc1,mv1,hm1,hb1⟩
 have HO:=hide (GL hb1 1 (by rw [Az]; exact HM.out))
 have cZ:=hide hc1
 have PD:=hide hm1
 clear hc1 hm1 hb1 HP
 go_wp2_with fail
 go_at_call 175
 refine HO.out.mono ?_
 rintro e w2 ⟨⟨v2,rfl⟩,hp2⟩
 have HP2:=hide hp2
 clear hp2
 go_wp2
 refine bodyPost_end (results_none rfl _ _ _) rfl ?_
 exact ⟨⟨_,rfl⟩,dU.alloc kF.out (dU.step cZ.out PD.out HP2.out)⟩
end Go.Proofs.YtjcgiddgafjdpaaGreatDoor
