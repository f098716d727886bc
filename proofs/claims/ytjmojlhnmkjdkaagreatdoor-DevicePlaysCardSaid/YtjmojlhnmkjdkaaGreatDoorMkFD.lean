/- emit.Maker: names. -/
import Derived.Test.YtjmojlhnmkjdkaaGreatDoorDP7
import Derived.Test.YtjmojlhnmkjdkaaGreatDoorShelfID
set_option linter.unusedVariables false
namespace Go.Proofs.YtjmojlhnmkjdkaaGreatDoor
open Go.RowKit Go.Deep Go.Maps Ab
attribute [local go_sem] Oper.semAt_some
theorem aip (w:World) (k:Nat) (os:Array Obj):ah w (Go.Sort.grow (w.drewN k) os) [] :=
 ((ah.refl w []).drewN k).trans (D':=[]) ⟨rfl,rfl,rfl,by simp [Go.Sort.grow],fun j hj _=>by simp only [Go.Sort.grow]; rw [Array.getElem?_append_left hj]⟩ (by simp)
theorem abJ{w:World}(hg:oh w)(n:Nat)(hn:n<=1000000):Calls Tryz.prog 217 #[.int .i64 (n:Int)] w fun e w'=>e=.returned (.string ⟨(oI n).toArray⟩)/\ah w w' []:=by
 refine(Tryz.strconv_Itoa (n:Int) (by omega) (by omega) w hg.pow).mono ?_;rintro e w' ⟨rfl,k,os,rfl⟩;exact⟨rfl,aip w k os⟩
section
variable {w:World} {b:MP} {p:KP} {s:KS}
set_option maxRecDepth 100000 in
theorem ND(h:KB w b p s)(c:UInt8)(hn:s.names+1<=100000) :
 Calls Tryz.prog 141 #[.pointer (some ⟨b.a,0,none⟩),.string ⟨#[c]⟩] w fun e w'=>e=.returned (.string ⟨(c::oI (s.names+1)).toArray⟩)/\ah w w' [b.a]/\KB w' b p { s with names:=s.names+1 }:=by
 have c7:=h.blk.cell' (i:=7) rfl;have f7:=h.blk.frozen 7;have hlt:=h.blk.lt;have hw:wrap64 ((s.names:Int)+1)=((s.names+1:Nat):Int):=by unfold wrap64; omega
 have hc:ah w (w.setCell ⟨b.a,7,none⟩ (.int .i64 ((s.names+1:Nat):Int))) [b]:=(ah.refl w _).setCell _ _ (.inl (by simp))
 have hk:KB (w.setCell ⟨b.a,7,none⟩ (.int .i64 ((s.names+1:Nat):Int))) b p { s with depth:=s.depth,names:=s.names+1 }:=h.ail hc s.depth (s.names+1) (h.blk.aK 7 _)
  { h.wf with names:=hn,cap:=Nat.le_succ_of_le h.wf.cap,reg:=fun q hq=>Nat.le_succ_of_le (h.wf.reg q hq),defs:=Nat.le_succ_of_le h.wf.defs,lab:=fun q hq=>Nat.le_succ_of_le (h.wf.lab q hq) }
 have hi:=abJ hk.jF (s.names+1) (by omega);have HK:=hide hk;have HC:=hide hc;have hs:(wrap64 ((s.names:Int)+1))=(s.names:Int)+1:=by unfold wrap64; omega
 rw [show((s.names+1:Nat):Int)=(s.names:Int)+1 by omega] at hi HK HC
 have hx:¬ (9223372036854775807<1+(oI (s.names+1)).length):=by
  have:(oI (s.names+1)).length<=21:=by unfold oI; rw [Lib.itoa_nonneg]; exact DR (by omega)
  omega
 clear h hk hc hw;go_enter Tryz.func141,Tryz.ntmps141
 go_wp2_with (go_at_call 217; refine hi.mono ?_);rintro e w1 ⟨rfl,hc1⟩;have bZ:=hide hc1;clear hc1 hi;go_wp2;go_ret;exact⟨rfl,HC.out.trans (bZ.out.more (by simp)) (fun k hk=>.inl hk),HK.out.bJ bZ.out⟩
