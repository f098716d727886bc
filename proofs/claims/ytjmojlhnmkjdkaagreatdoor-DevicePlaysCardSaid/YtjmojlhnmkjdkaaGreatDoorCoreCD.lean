/- The core: what an instruction does. -/
import Derived.Test.YtjmojlhnmkjdkaaGreatDoorDP3
import Derived.Test.YtjmojlhnmkjdkaaGreatDoorDP6
set_option linter.unusedVariables false
namespace Go.Proofs.YtjmojlhnmkjdkaaGreatDoor
open Go.RowKit Go.Deep Go.Maps
attribute [local go_sem] Oper.semAt_some
def lN (s:CS) (i:Nat):Int:=s.regs.getD i 0
theorem gG.alloc{s:CS}{c:Nat}{bp cv mv:Value}{code:List (aW×Bool)}{w w1 w':World}(hc:ah w w1 [])(h:gG s c bp cv mv code w1 w'):gG s c bp cv mv code w w':=by
 obtain⟨hc2,mv',hm,hb⟩:=h;refine⟨(hc.more (by simp)).trans hc2 (fun k hk=>.inl hk),mv',?_,hb⟩;rcases hm with h | ⟨g,h,hg⟩
 . exact .inl h
 . exact .inr ⟨g,h,Nat.le_trans hc.size hg⟩
theorem gG.step{s2:CS}{c:Nat}{bp cv mv mv1:Value}{code:List (aW×Bool)}{w w1 w2:World}(hc:ah w w1 ([c]++mv.ownBlock.toList))(hm:mv1.ownBlock=mv.ownBlock\/∃ g,mv1.ownBlock=some g/\w.heap.size<=g)(h2:gG s2 c bp cv mv1 code w1 w2):gG s2 c bp cv mv code w w2:=by
 obtain⟨hc2,mv2,hm2,hb2⟩:=h2;refine⟨hc.trans hc2 (fun k hk=>?_),mv2,?_,hb2⟩
 . simp only [List.mem_append,List.mem_singleton,Option.mem_toList] at hk ⊢
   rcases hk with hk | hk
   . exact .inl (.inl hk)
   . rcases hm with h | ⟨g,h,hg⟩
     . exact .inl (.inr (by rw [<- h]; exact hk))
     . rw [h] at hk
       injection hk with hk;exact .inr (by omega)
 . rcases hm2 with h | ⟨g,h,hg⟩
   . rcases hm with h' | ⟨g',h',hg'⟩
     . exact .inl (h.trans h')
     . exact .inr ⟨g',h.trans h',hg'⟩
   . exact .inr ⟨g,h,Nat.le_trans hc.size hg⟩
theorem Fg(s:CS)(i:Nat)(x:Int):(wO s i x).marks=s.marks:=by unfold wO; split<;>rfl
set_option maxRecDepth 100000 in
set_option maxHeartbeats 1000000 in
theorem afv{w:World}{c:Nat}{bp cv mv:Value}{code:List (aW×Bool)}{s:CS}(h:CB w c bp cv mv code s)(d a:Nat)(n:Int)(hd:d<32)(ha:a<32)(hn1:-32768<=n)(hn2:n<=32767)(hm:s.marks.length<=2000000) :
 Calls Tryz.prog 131 #[.pointer (some ⟨c,0,none⟩),bD ⟨31,d,a,0,n⟩] w fun e w'=>(∃ v,e=.returned v)/\gG (Wj (wO s d (wrap32 (lN s a+n))) 1) c bp cv mv code w w':=by
 have H:=hide h;have HM:=hide hm;have hca:=h.blk.cell' (nR h.reg a ha);have hlt:=h.blk.lt;have ha2:(a:Int)<32:=by omega
 unfold lN;generalize s.regs.getD a 0=ra at *;clear h hm;unfold bD;go_enter Tryz.func131,Tryz.ntmps131
 go_wp2;go_quiet (fail)
 go_wp2_with fail
 go_at_call 205;have hc0:ah w ((w.alloc (.cells #[.int .i64 31,.int .i64 d,.int .i64 a,.int .i64 0,.int .i64 n] 126)).drewN nq) []:=((ah.refl w []).alloc _).drewN nq;have mg:=hide hc0;have HP:=hide (H_ (H.out.aj hc0 (by simp)) d hd (wrap32 (ra+n)));have hb5:aC ((w.alloc (.cells #[.int .i64 31,.int .i64 d,.int .i64 a,.int .i64 0,.int .i64 n] 126)).drewN nq) w.heap.size 126 [.int .i64 31,.int .i64 d,.int .i64 a,.int .i64 0,.int .i64 n]:=(aC.new w 126 [.int .i64 31,.int .i64 d,.int .i64 a,.int .i64 0,.int .i64 n]).drewN nq;have jS:=hide hb5;have qM:=hide hlt;clear hc0 hb5;refine HP.out.mono ?_;rintro e w1 ⟨⟨v,rfl⟩,hc1,mv1,hm1,hb1⟩;have HO:=hide (LV hb1 1 (by rw [Fg]; exact HM.out));have bZ:=hide hc1;have Va:=hide hm1;clear hc1 hm1 hb1 HP;go_wp2_with fail
 go_at_call 206;refine HO.out.mono ?_;rintro e w2 ⟨⟨v2,rfl⟩,hp2⟩;have HP2:=hide hp2;clear hp2;go_wp2;refine bodyPost_end (results_none rfl _ _ _) rfl ?_;exact⟨⟨_,rfl⟩,gG.alloc mg.out (gG.step bZ.out Va.out HP2.out)⟩
