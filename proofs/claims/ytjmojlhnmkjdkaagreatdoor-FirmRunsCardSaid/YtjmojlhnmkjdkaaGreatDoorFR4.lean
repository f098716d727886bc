/- Texts of this claim, side by side. -/
import Derived.Test.YtjmojlhnmkjdkaaGreatDoorFR3
import Derived.StillTailTactics
set_option linter.unusedVariables false
set_option maxRecDepth 100000
set_option maxHeartbeats 8000000
namespace Go.Proofs.YtjmojlhnmkjdkaaGreatDoor
open Go.RowKit Go.Deep Go.Maps
attribute [local go_sem] Oper.semAt_some
theorem alS (bm:BM) (s:Nm) (p:Int):pK bm s p=(CX bm.defs s,{ bm with defs:=Af bm.defs s p }):=by
 unfold pK Af CX
 cases h:qH s with
 | false=>simp
 | true=>cases h2:(gB bm.defs s).isSome<;>simp
theorem F9.lt {w:World} {b t m n:Nat} {cv uv:Value} {bm:BM} (h:F9 w b t m cv uv n bm):∀ k∈fZ b t m cv uv,k < w.heap.size:=by
 intro k hk;simp only [fZ,pY,List.mem_append,List.mem_cons,List.not_mem_nil,or_false,Option.mem_toList] at hk;rcases hk with (rfl | hk) | (rfl | rfl) | hk
 . exact h.blk.lt
 . exact (h.row.lt k hk).2
 . exact h.tab.blk.lt
 . exact h.tab.map.lt
 . exact (h.tab.row.lt k hk).2
theorem PB.lt {w:World} {b:Nat} {bm:BM} {F:List Nat} (h:PB w b bm F):∀ k∈F,k < w.heap.size:=by
 obtain ⟨t,m,cv,uv,n,hp,rfl,_⟩:=h;exact hp.lt
theorem alU {bm:BM} {op d a:Int} {s:Nm} (h:BI op=false):MS bm op d a s=(2,bm):=by unfold MS; rw [if_pos h]
theorem alV {bm:BM} {op d a:Int} {s:Nm} (h:BI op=true) (h2:chk op d a 0 0≠0):MS bm op d a s=(chk op d a 0 0,bm):=by
 unfold MS jU; rw [if_neg (by rw [h]; decide),if_pos h2]
theorem ahG {bm:BM} {op d a:Int} {s:Nm} (h:BI op=true) (h2:chk op d a 0 0=0) (h3:qH s=false):MS bm op d a s=(8,bm):=by
 unfold MS jU; rw [if_neg (by rw [h]; decide),if_neg (by simp [h2]),if_pos h3]
theorem aeb {bm:BM} {op d a:Int} {s:Nm} (h:BI op=true) (h2:chk op d a 0 0=0) (h3:qH s=true):MS bm op d a s=(0,{ bm with uses:=bm.uses ++ [(s,(bm.code.length:Int))],code:=bm.code ++ [⟨op,d,a,0,0⟩] }):=by
 unfold MS jU; rw [if_neg (by rw [h]; decide),if_neg (by simp [h2]),if_neg (by rw [h3]; decide)]
theorem Zn {bm:BM} {i:aW} (h:jU i=0):GZ bm i=(0,{ bm with code:=bm.code ++ [i] }):=by unfold GZ; simp [h]
def yD (r:Int × BM) (b:Nat) (F:List Nat) (w:World) (e:Ending) (w':World):Prop:=e=.returned (.int .i64 r.1)/\ah w w' F/\∃ F',Sub F' F w/\PB w' b r.2 F'
theorem ahH {w:World} {b:Nat} {bm:BM} {F:List Nat} (h:PB w b bm F) (op d a:Int) (s:Nm) (hs:s.length<=1000000) (hl:bm.code.length<=900000) (hu:bm.uses.length<=1000000) :
 Calls Tryz.prog 393 #[.pointer (some ⟨b,0,none⟩),.int .i64 op,.int .i64 d,.int .i64 a,bK s] w (yD (MS bm op d a s) b F w):=by
 have hlt:=h.lt;obtain ⟨t,m,cv,uv,n,hp,rfl,hn⟩:=h;have HP:=hide hp;have hnx:=hide hn;have yE:=hide hlt;have hq:∀ k∈fZ b t m cv uv,k∉[w.heap.size]:=fun k hk=>by have:=hlt k hk; simp; omega
 have hck:=check_any op d a 0 0 (w.alloc (.cells #[.int .i64 op,.int .i64 d,.int .i64 a,.int .i64 0,.int .i64 0] 126));clear hp hn hlt
 cases hg:BI op with
 | false =>
  rw [alU hg];have hgo:=fun W=>yY op W;rw [hg] at hgo;clear hg;unfold bK kM at *;go_enter Tryz.func393,Tryz.ntmps393
  go_wp2_with fail
  go_at_call 170;refine hck.mono ?_;rintro e w1 ⟨rfl,hc⟩;have hc0:ah w w1 []:=((ah.refl w []).alloc _).trans hc (by simp);have dI:=hide (HP.out.aj hc0 (by simp));have hlv:=mW dI.out;have HC:=hide hc0;clear hc hc0 hck;go_wp2_with (first | (go_at_call 169; refine hlv.mono ?_; rintro e w1 ⟨rfl,rfl⟩) | (go_at_call 395; refine (hgo _).mono ?_; rintro e w1 ⟨rfl,rfl⟩));go_ret;exact ⟨rfl,HC.out.more (by simp),_,Sub.refl _ _,t,m,cv,uv,n,dI.out,rfl,hnx.out⟩
 | true =>
  by_cases h0:chk op d a 0 0=0
  . cases hi:qH s with
    | false =>
     rw [ahG hg h0 hi];rw [h0] at hck;have hgo:=fun W=>yY op W;rw [hg] at hgo;have em:tV s=8:=by unfold tV; rw [hi]; rfl
     have eu:EK bm.uses s bm.code.length=bm.uses:=by unfold EK; rw [hi]; rfl
     have HEM:=hide em;have HEU:=hide eu;clear hg h0 hi em eu;unfold bK kM at *;go_enter Tryz.func393,Tryz.ntmps393
     go_wp2_with fail
     go_at_call 170;refine hck.mono ?_;rintro e w1 ⟨rfl,hc⟩;have hc0:ah w w1 []:=((ah.refl w []).alloc _).trans hc (by simp);have dI:=hide (HP.out.aj hc0 (by simp));have hlv:=mW dI.out;have hbx:=(aC.new w 126 [.int .i64 op,.int .i64 d,.int .i64 a,.int .i64 0,.int .i64 0]).aj hc (by simp);have HBX:=hide hbx;have HC:=hide hc0;have c0:=dI.out.blk.cell' (i:=0) rfl;have c1:=dI.out.blk.cell' (i:=1) rfl;have hus:=QI (dI.out.tab.aj (ah.refl w1 []).drew (by simp)) s bm.code.length hs hu;rw [HEM.out,HEU.out] at hus;obtain ⟨A,c,rfl⟩:=aY dI.out.row;unfold bK at hus;clear hc hc0 hbx hck;go_wp2_with (first | (go_at_call 169; refine hlv.mono ?_; rintro e w1 ⟨rfl,rfl⟩) | (go_at_call 395; refine (hgo _).mono ?_; rintro e w1 ⟨rfl,rfl⟩));go_still_tail 10,(by kernel_rfl)
     change wpList _ _ _ _ _ w1.drew;go_wp2_with fail
     go_at_call 396;refine hus.mono ?_;rintro e w2 ⟨rfl,hc2,uv',hrn,ht2⟩
     have hsub:∀ k∈[t] ++ uv.ownBlock.toList,k∈fZ b t m (.slice A bm.code.length c) uv:=fun k hk=>by
      simp only [fZ,pY,List.mem_append,List.mem_cons,List.not_mem_nil,or_false] at hk ⊢;rcases hk with hk | hk
      . exact .inr (.inl (.inl hk))
      . exact .inr (.inr hk)
     have hc2':ah w1 w2 ([t] ++ uv.ownBlock.toList):=((ah.refl w1 []).drew.more (by simp)).trans hc2 (fun k hk=>.inl hk);obtain ⟨q1,q2,q3,q4,q5,q6⟩:=dI.out.ne
     have hP2:F9 w2 b t m (.slice A bm.code.length c) uv' n bm:=⟨dI.out.blk.aj hc2' (fun hm=>by
      simp only [List.mem_append,List.mem_singleton,Option.mem_toList] at hm;rcases hm with hm | hm
      . exact q1 hm
      . exact (q6 b hm).1 rfl),ht2,aH dI.out.row hc2' (fun g hg hm=>by
      simp only [List.mem_append,List.mem_singleton,Option.mem_toList] at hm;rcases hm with rfl | hm
      . exact q4 hg
      . exact (q6 g hm).2 hg)⟩
     have hF1:Sub (fZ b t m (.slice A bm.code.length c) uv') (fZ b t m (.slice A bm.code.length c) uv) w:=fun k hk=>by
      simp only [fZ,pY,List.mem_append,List.mem_cons,List.not_mem_nil,or_false,Option.mem_toList] at hk ⊢;rcases hk with hk | hk | hk
      . exact .inl (.inl hk)
      . exact .inl (.inr (.inl hk))
      . rcases hrn with h | ⟨g,h,hg⟩
        . exact .inl (.inr (.inr (by rw [<- h]; exact hk)))
        . rw [h] at hk
          injection hk with hk;subst hk;have:w1.heap.size<=g:=hg;exact .inr (by have:=HC.out.size; omega)
     have kJ:=hide hF1;have HC2:Hid (ah w w2 (fZ b t m (.slice A bm.code.length c) uv)):=hide ((HC.out.more (by simp)).trans (hc2'.more (fun k hk=>.inl (hsub k hk))) (fun k hk=>.inl hk));have HP2:=hide hP2;clear hc2 hc2' ht2 hP2 hF1 q1 q2 q3 q4 q5 q6 hrn hsub hus;go_wp2;go_ret;exact ⟨rfl,HC2.out,_,kJ.out,t,m,_,uv',n,HP2.out,rfl,hnx.out⟩
    | true =>
     rw [aeb hg h0 hi];rw [h0] at hck;have hgo:=fun W=>yY op W;rw [hg] at hgo;have em:tV s=0:=by unfold tV; rw [hi]; rfl
     have eu:EK bm.uses s bm.code.length=bm.uses ++ [(s,(bm.code.length:Int))]:=by unfold EK; rw [hi]; rfl
     have HI:=hide (Zn (bm:={ bm with uses:=bm.uses ++ [(s,(bm.code.length:Int))] }) (i:=⟨op,d,a,0,0⟩) h0);have HEM:=hide em;have HEU:=hide eu;clear hg h0 hi em eu;unfold bK kM at *;go_enter Tryz.func393,Tryz.ntmps393
     go_wp2_with fail
     go_at_call 170;refine hck.mono ?_;rintro e w1 ⟨rfl,hc⟩;have hc0:ah w w1 []:=((ah.refl w []).alloc _).trans hc (by simp);have dI:=hide (HP.out.aj hc0 (by simp));have hlv:=mW dI.out;have hbx:=(aC.new w 126 [.int .i64 op,.int .i64 d,.int .i64 a,.int .i64 0,.int .i64 0]).aj hc (by simp);have HBX:=hide hbx;have HC:=hide hc0;have c0:=dI.out.blk.cell' (i:=0) rfl;have c1:=dI.out.blk.cell' (i:=1) rfl;have hus:=QI (dI.out.tab.aj (ah.refl w1 []).drew (by simp)) s bm.code.length hs hu;rw [HEM.out,HEU.out] at hus;obtain ⟨A,c,rfl⟩:=aY dI.out.row;unfold bK at hus;clear hc hc0 hbx hck;go_wp2_with (first | (go_at_call 169; refine hlv.mono ?_; rintro e w1 ⟨rfl,rfl⟩) | (go_at_call 395; refine (hgo _).mono ?_; rintro e w1 ⟨rfl,rfl⟩));go_still_tail 10,(by kernel_rfl)
     change wpList _ _ _ _ _ w1.drew;go_wp2_with fail
     go_at_call 396;refine hus.mono ?_;rintro e w2 ⟨rfl,hc2,uv',hrn,ht2⟩
     have hsub:∀ k∈[t] ++ uv.ownBlock.toList,k∈fZ b t m (.slice A bm.code.length c) uv:=fun k hk=>by
      simp only [fZ,pY,List.mem_append,List.mem_cons,List.not_mem_nil,or_false] at hk ⊢;rcases hk with hk | hk
      . exact .inr (.inl (.inl hk))
      . exact .inr (.inr hk)
     have hc2':ah w1 w2 ([t] ++ uv.ownBlock.toList):=((ah.refl w1 []).drew.more (by simp)).trans hc2 (fun k hk=>.inl hk);obtain ⟨q1,q2,q3,q4,q5,q6⟩:=dI.out.ne
     have hP2:F9 w2 b t m (.slice A bm.code.length c) uv' n { bm with uses:=bm.uses ++ [(s,(bm.code.length:Int))] }:=⟨dI.out.blk.aj hc2' (fun hm=>by
      simp only [List.mem_append,List.mem_singleton,Option.mem_toList] at hm;rcases hm with hm | hm
      . exact q1 hm
      . exact (q6 b hm).1 rfl),ht2,aH dI.out.row hc2' (fun g hg hm=>by
      simp only [List.mem_append,List.mem_singleton,Option.mem_toList] at hm;rcases hm with rfl | hm
      . exact q4 hg
      . exact (q6 g hm).2 hg)⟩
     have hin:=QL ⟨t,m,_,uv',n,hP2,rfl,hnx.out⟩ ⟨op,d,a,0,0⟩ (by show bm.code.length<=_; omega);rw [HI.out] at hin;have hbx2:=HBX.out.aj hc2' (fun hm=>hq _ (hsub _ hm) (by simp));have x0:=hbx2.cell' (i:=0) rfl;have x1:=hbx2.cell' (i:=1) rfl;have x2:=hbx2.cell' (i:=2) rfl;have x3:=hbx2.cell' (i:=3) rfl;have x4:=hbx2.cell' (i:=4) rfl
     have hF1:Sub (fZ b t m (.slice A bm.code.length c) uv') (fZ b t m (.slice A bm.code.length c) uv) w:=fun k hk=>by
      simp only [fZ,pY,List.mem_append,List.mem_cons,List.not_mem_nil,or_false,Option.mem_toList] at hk ⊢;rcases hk with hk | hk | hk
      . exact .inl (.inl hk)
      . exact .inl (.inr (.inl hk))
      . rcases hrn with h | ⟨g,h,hg⟩
        . exact .inl (.inr (.inr (by rw [<- h]; exact hk)))
        . rw [h] at hk
          injection hk with hk;subst hk;have:w1.heap.size<=g:=hg;exact .inr (by have:=HC.out.size; omega)
     have kJ:=hide hF1;have HC2:Hid (ah w w2 (fZ b t m (.slice A bm.code.length c) uv)):=hide ((HC.out.more (by simp)).trans (hc2'.more (fun k hk=>.inl (hsub k hk))) (fun k hk=>.inl hk));unfold bH at hin;clear hc2 hc2' ht2 hP2 hbx2 hF1 q1 q2 q3 q4 q5 q6 hrn hsub hus;go_wp2_with fail
     go_at_call 105;refine hin.mono ?_;rintro e w3 ⟨rfl,hc3,F',hs3,hp3⟩;have iR:=hide hc3;have G5:=hide hs3;have Nc:=hide hp3;clear hc3 hs3 hp3 hin;go_wp2;go_ret;refine ⟨rfl,HC2.out.trans iR.out (fun k hk=>kJ.out k hk),F',fun k hk=>?_,Nc.out⟩;rcases G5.out k hk with h | h
     . exact kJ.out k h
     . exact .inr (by have:=HC2.out.size; omega)
  . skip
    rw [alV hg h0];have hgo:=fun W=>yY op W;rw [hg] at hgo;have hx0:(chk op d a 0 0==0)=false:=beq_eq_false_iff_ne.2 h0;generalize chk op d a 0 0=e0 at *;clear hg h0;unfold bK kM at *;go_enter Tryz.func393,Tryz.ntmps393
    go_wp2_with fail
    go_at_call 170;refine hck.mono ?_;rintro e w1 ⟨rfl,hc⟩;have hc0:ah w w1 []:=((ah.refl w []).alloc _).trans hc (by simp);have dI:=hide (HP.out.aj hc0 (by simp));have hlv:=mW dI.out;have HC:=hide hc0;clear hc hc0 hck;go_wp2_with (first | (go_at_call 169; refine hlv.mono ?_; rintro e w1 ⟨rfl,rfl⟩) | (go_at_call 395; refine (hgo _).mono ?_; rintro e w1 ⟨rfl,rfl⟩));go_ret;exact ⟨rfl,HC.out.more (by simp),_,Sub.refl _ _,t,m,cv,uv,n,dI.out,rfl,hnx.out⟩
theorem vW (d:Int):jC d=true↔0<=d/\d<=31:=by unfold jC; simp
theorem UR {d a n:Int} (h:jC d=true) (ha:jC a=true) (h1:-32768<=n) (h2:n<=32767):chk 31 d a 0 n=0:=by
 rw [lS];rw [vW] at h ha;unfold Fits jB;simp;omega
theorem Zo {d a n:Int} (h:jC d=true) (ha:jC a=true) (h1:0<=n) (h2:n<=65535):chk 32 d a 0 n=0:=by
 rw [lS];rw [vW] at h ha;unfold Fits jB;simp;omega
theorem alW {d n:Int} (h:jC d=true) (h1:0<=n) (h2:n<=65535):chk 33 d 0 0 n=0:=by
 rw [lS];rw [vW] at h;unfold Fits jB;simp;omega
theorem alX {d a:Int} (h:jC d=true) (ha:jC a=true):chk 38 d a 0 0=0:=by
 rw [lS];rw [vW] at h ha;unfold Fits jB;simp;omega
theorem yD.mk2 {w w1 w2:World} {e:Ending} {b:Nat} {F F1:List Nat} {bm:BM} {r:Int} (h:ah w w1 F) (hs:Sub F1 F w) (h2:yD (r,bm) b F1 w1 e w2):yD (r,bm) b F w e w2:=by
 obtain ⟨rfl,hc,F2,hs2,hp⟩:=h2;refine ⟨rfl,h.trans hc (fun k hk=>hs k hk),F2,fun k hk=>?_,hp⟩;rcases hs2 k hk with h3 | h3
 . exact hs k h3
 . exact .inr (Nat.le_trans h.size h3)
theorem nM {w:World} {b:Nat} {bm:BM} {F:List Nat} (h:PB w b bm F) (i:aW) (hl:bm.code.length<=1000000) (h0:jU i=0) :
 Calls Tryz.prog 105 #[.pointer (some ⟨b,0,none⟩),bH i] w (yD (0,{ bm with code:=bm.code ++ [i] }) b F w):=by
 have:=QL h i hl;rw [Zn h0] at this;exact this
theorem PB.live {w:World} {b:Nat} {bm:BM} {F:List Nat} (h:PB w b bm F):Calls Tryz.prog 169 #[.pointer (some ⟨b,0,none⟩)] w fun e w'=>e=.returned (.bool true)/\w=w':=by
 obtain ⟨t,m,cv,uv,n,hp,_⟩:=h;exact mW hp
theorem QM {w:World} {b:Nat} {bm:BM} {F:List Nat} (h:PB w b bm F) (d n:Int) (hl:bm.code.length<=900000) (hn1:-2147483648<=n) (hn2:n<=2147483647) :
 Calls Tryz.prog 392 #[.pointer (some ⟨b,0,none⟩),.int .i64 d,.int .i32 n] w (yD (KJ bm d n) b F w):=by
 have hlv:=h.live;have hrg:=fun W=>xA d W;have HP:=hide h
 cases hr:jC d with
 | false =>
  have e:KJ bm d n=(6,bm):=by unfold KJ; rw [if_pos hr]
  rw [e];rw [hr] at hrg;clear h hr e;go_enter Tryz.func392,Tryz.ntmps392
  go_wp2_with (first | (go_at_call 169; refine hlv.mono ?_; rintro e w1 ⟨rfl,rfl⟩) | (go_at_call 390; refine (hrg _).mono ?_; rintro e w1 ⟨rfl,rfl⟩));go_ret;exact ⟨rfl,ah.refl _ _,F,Sub.refl _ _,HP.out⟩
 | true =>
  have e:KJ bm d n=(0,{ bm with code:=bm.code ++ vP d n }):=by unfold KJ; rw [if_neg (by rw [hr]; decide)]
  rw [e];by_cases hin:-32768<=n/\n<=32767
  . have e2:vP d n=[⟨31,d,0,0,n⟩]:=by unfold vP; rw [if_pos hin]
    rw [e2];obtain ⟨h1,h2⟩:=hin;have hi:=nM h ⟨31,d,0,0,n⟩ (by omega) (show chk 31 d 0 0 n=0 from UR hr (by decide) h1 h2);rw [hr] at hrg;unfold bH at hi;clear h hr e e2;go_enter Tryz.func392,Tryz.ntmps392
    go_wp2_with (first | (go_at_call 169; refine hlv.mono ?_; rintro e w1 ⟨rfl,rfl⟩) | (go_at_call 390; refine (hrg _).mono ?_; rintro e w1 ⟨rfl,rfl⟩));go_at_call 105;refine hi.mono ?_;rintro e w1 ⟨rfl,hc,F',hs,hp⟩;go_wp2;go_ret;exact ⟨rfl,hc,F',hs,hp⟩
  . have e2:vP d n=[⟨33,d,0,0,n % 4294967296 / 65536⟩,⟨32,d,d,0,n % 65536⟩]:=by unfold vP; rw [if_neg hin]
    rw [e2]
    have hx:(decide (-32768<=n) && decide (n<=32767))=false:=by
     cases hb:(decide (-32768<=n) && decide (n<=32767)) with
     | false=>rfl
     | true=>simp at hb; exact absurd hb hin
    have hi:=nM h ⟨33,d,0,0,n % 4294967296 / 65536⟩ (by omega) (show chk 33 d 0 0 (n % 4294967296 / 65536)=0 from alW hr (by omega) (by omega));have HR:=hide hr;rw [hr] at hrg;unfold bH at hi;clear h hr e e2;by_cases hlo:-32768<=n
    . have hn3:32767 < n:=by omega
      have hi:Calls Tryz.prog 105 #[.pointer (some ⟨b,0,none⟩),.agg #[.int .i64 33,.int .i64 d,.int .i64 0,.int .i64 0,.int .i64 (n / 65536)]] w (yD (0,{ bm with code:=bm.code ++ [⟨33,d,0,0,n % 4294967296 / 65536⟩] }) b F w):=by
       have en:n % 4294967296=n:=by omega
       rw [en] at hi ⊢;exact hi
      go_enter Tryz.func392,Tryz.ntmps392
      go_wp2_with (first | (go_at_call 169; refine hlv.mono ?_; rintro e w1 ⟨rfl,rfl⟩) | (go_at_call 390; refine (hrg _).mono ?_; rintro e w1 ⟨rfl,rfl⟩));go_at_call 105;refine hi.mono ?_;rintro e w1 ⟨rfl,hc,F1,hs1,hp1⟩;have hi2:=nM hp1 ⟨32,d,d,0,n % 65536⟩ (by show (bm.code ++ [_]).length<=_; rw [List.length_append]; simp; omega) (show chk 32 d d 0 (n % 65536)=0 from Zo HR.out HR.out (by omega) (by omega));have HC:=hide hc;have fG:=hide hs1;unfold bH at hi2
      have eu:wrap64 (IntKind.u16.wrap n)=n % 65536:=by
       have e1:IntKind.u16.wrap n=n % 65536:=by simp only [IntKind.wrap,IntKind.bits,IntKind.signed]; simp
       rw [e1];unfold wrap64;omega
      have hi2:Calls Tryz.prog 105 #[.pointer (some ⟨b,0,none⟩),.agg #[.int .i64 32,.int .i64 d,.int .i64 d,.int .i64 0,.int .i64 (wrap64 (IntKind.u16.wrap n))]] w1 (yD (0,{ bm with code:=bm.code ++ [(⟨33,d,0,0,n % 4294967296 / 65536⟩:aW)] ++ [⟨32,d,d,0,n % 65536⟩] }) b F1 w1):=by
       rw [eu];exact hi2
      clear hc hs1 hp1 hi eu;go_wp2_with fail
      go_at_call 105;refine hi2.mono ?_;intro e w2 DL;have hG:=yD.mk2 HC.out fG.out DL;have e3:bm.code ++ [(⟨33,d,0,0,n % 4294967296 / 65536⟩:aW)] ++ [⟨32,d,d,0,n % 65536⟩]=bm.code ++ [⟨33,d,0,0,n % 4294967296 / 65536⟩,⟨32,d,d,0,n % 65536⟩]:=by simp
      simp only [e3] at hG;obtain ⟨rfl,hc2,F2,hs2,hp2⟩:=hG;clear DL hi2 e3;go_wp2;go_ret;exact ⟨rfl,hc2,F2,hs2,hp2⟩
    . have hn3:n < -32768:=by omega
      have hi:Calls Tryz.prog 105 #[.pointer (some ⟨b,0,none⟩),.agg #[.int .i64 33,.int .i64 d,.int .i64 0,.int .i64 0,.int .i64 (n % 4294967296 / 65536)]] w (yD (0,{ bm with code:=bm.code ++ [⟨33,d,0,0,n % 4294967296 / 65536⟩] }) b F w):=by
       exact hi
      go_enter Tryz.func392,Tryz.ntmps392
      go_wp2_with (first | (go_at_call 169; refine hlv.mono ?_; rintro e w1 ⟨rfl,rfl⟩) | (go_at_call 390; refine (hrg _).mono ?_; rintro e w1 ⟨rfl,rfl⟩));go_at_call 105;refine hi.mono ?_;rintro e w1 ⟨rfl,hc,F1,hs1,hp1⟩;have hi2:=nM hp1 ⟨32,d,d,0,n % 65536⟩ (by show (bm.code ++ [_]).length<=_; rw [List.length_append]; simp; omega) (show chk 32 d d 0 (n % 65536)=0 from Zo HR.out HR.out (by omega) (by omega));have HC:=hide hc;have fG:=hide hs1;unfold bH at hi2
      have eu:wrap64 (IntKind.u16.wrap n)=n % 65536:=by
       have e1:IntKind.u16.wrap n=n % 65536:=by simp only [IntKind.wrap,IntKind.bits,IntKind.signed]; simp
       rw [e1];unfold wrap64;omega
      have hi2:Calls Tryz.prog 105 #[.pointer (some ⟨b,0,none⟩),.agg #[.int .i64 32,.int .i64 d,.int .i64 d,.int .i64 0,.int .i64 (wrap64 (IntKind.u16.wrap n))]] w1 (yD (0,{ bm with code:=bm.code ++ [(⟨33,d,0,0,n % 4294967296 / 65536⟩:aW)] ++ [⟨32,d,d,0,n % 65536⟩] }) b F1 w1):=by
       rw [eu];exact hi2
      clear hc hs1 hp1 hi eu;go_wp2_with fail
      go_at_call 105;refine hi2.mono ?_;intro e w2 DL;have hG:=yD.mk2 HC.out fG.out DL;have e3:bm.code ++ [(⟨33,d,0,0,n % 4294967296 / 65536⟩:aW)] ++ [⟨32,d,d,0,n % 65536⟩]=bm.code ++ [⟨33,d,0,0,n % 4294967296 / 65536⟩,⟨32,d,d,0,n % 65536⟩]:=by simp
      simp only [e3] at hG;obtain ⟨rfl,hc2,F2,hs2,hp2⟩:=hG;clear DL hi2 e3;go_wp2;go_ret;exact ⟨rfl,hc2,F2,hs2,hp2⟩
theorem G6 (c l n:Int):yV c l n=true↔(c≠0/\l≠0/\c≠l/\jC c=true/\jC l=true/\1<=n/\n<=32767):=by
 unfold yV;simp only [Bool.and_eq_true,decide_eq_true_eq];constructor<;>(intro h; simp_all)
theorem ahI (k:Nat) (caps:Array Value) (W:World):(binOp .neq 1 (.func (.func k) #[] caps) .nilFunc).run Tryz.prog W=.ok (.bool true) W:=by kernel_rfl
def abm (Q:World->BM->List Nat->Prop) (bm:BM) (b:Nat) (c l n:Int) (s:Nm) (F:List Nat) (w:World) (e:Ending) (w':World):Prop :=
 ((qY bm c l n s).1=0->∃ w2 bm2 F2,Q w2 bm2 F2/\yD (0,MV bm2 c l s) b F2 w2 e w')/\((qY bm c l n s).1≠0->yD ((qY bm c l n s).1,bm) b F w e w')
theorem aec {c l n:Int} (h:yV c l n=false) :
 c=0\/c≠0/\l=0\/c≠0/\l≠0/\c=l\/c≠0/\l≠0/\c≠l/\jC c=false\/c≠0/\l≠0/\c≠l/\jC c=true/\jC l=false\/c≠0/\l≠0/\c≠l/\jC c=true/\jC l=true/\n < 1\/c≠0/\l≠0/\c≠l/\jC c=true/\jC l=true/\1<=n/\32767 < n:=by
 have h2:¬ (c≠0/\l≠0/\c≠l/\jC c=true/\jC l=true/\1<=n/\n<=32767):=fun hh=>by rw [(G6 c l n).2 hh] at h; exact absurd h (by decide)
 cases h3:jC c<;>cases h4:jC l<;>(simp [h3,h4] at h2 ⊢; omega)
theorem ahJ {w:World} {b:Nat} {bm:BM} {F:List Nat} (h:PB w b bm F) (c l n:Int) (s:Nm) (f:Value) (hb:yV c l n=false) :
 Calls Tryz.prog 388 #[.pointer (some ⟨b,0,none⟩),.int .i64 c,.int .i64 l,.int .i64 n,bK s,f] w fun e w'=>e=.returned (.int .i64 6)/\w=w':=by
 have hlv:=h.live;have hrc:=fun W=>xA c W;have hrl:=fun W=>xA l W;clear h;have hw:=aec hb;clear hb;unfold bK;rcases hw with h1 | ⟨h1,h2⟩ | ⟨h1,h2,h3⟩ | ⟨h1,h2,h3,h4⟩ | ⟨h1,h2,h3,h4,h5⟩ | ⟨h1,h2,h3,h4,h5,h6⟩ | ⟨h1,h2,h3,h4,h5,h6,h7⟩
 . have x1:(c==0)=true:=beq_iff_eq.2 h1
   clear h1;go_enter Tryz.func388,Tryz.ntmps388
   go_wp2_with (go_at_call 169; refine hlv.mono ?_; rintro e w1 ⟨rfl,rfl⟩);go_ret;exact ⟨rfl,rfl⟩
 . have x1:(c==0)=false:=beq_eq_false_iff_ne.2 h1
   have x2:(l==0)=true:=beq_iff_eq.2 h2;clear h1 h2;go_enter Tryz.func388,Tryz.ntmps388
   go_wp2_with (go_at_call 169; refine hlv.mono ?_; rintro e w1 ⟨rfl,rfl⟩);go_ret;exact ⟨rfl,rfl⟩
 . have x1:(c==0)=false:=beq_eq_false_iff_ne.2 h1
   have x2:(l==0)=false:=beq_eq_false_iff_ne.2 h2;have x3:(c==l)=true:=beq_iff_eq.2 h3;clear h1 h2 h3;go_enter Tryz.func388,Tryz.ntmps388
   go_wp2_with (go_at_call 169; refine hlv.mono ?_; rintro e w1 ⟨rfl,rfl⟩);go_ret;exact ⟨rfl,rfl⟩
 . have x1:(c==0)=false:=beq_eq_false_iff_ne.2 h1
   have x2:(l==0)=false:=beq_eq_false_iff_ne.2 h2;have x3:(c==l)=false:=beq_eq_false_iff_ne.2 h3;rw [h4] at hrc;clear h1 h2 h3 h4;go_enter Tryz.func388,Tryz.ntmps388
   go_wp2_with (first | (go_at_call 169; refine hlv.mono ?_; rintro e w1 ⟨rfl,rfl⟩) | (go_at_call 390; refine (hrc _).mono ?_; rintro e w1 ⟨rfl,rfl⟩));go_ret;exact ⟨rfl,rfl⟩
 . have x1:(c==0)=false:=beq_eq_false_iff_ne.2 h1
   have x2:(l==0)=false:=beq_eq_false_iff_ne.2 h2;have x3:(c==l)=false:=beq_eq_false_iff_ne.2 h3;rw [h4] at hrc;rw [h5] at hrl;clear h1 h2 h3 h4 h5;go_enter Tryz.func388,Tryz.ntmps388
   go_wp2_with (go_at_call 169; refine hlv.mono ?_; rintro e w1 ⟨rfl,rfl⟩);go_at_call 390;refine (hrc _).mono ?_;rintro e w1 ⟨rfl,rfl⟩;go_wp2_with fail
   go_at_call 390;refine (hrl _).mono ?_;rintro e w1 ⟨rfl,rfl⟩;go_wp2_with fail
   go_ret;exact ⟨rfl,rfl⟩
 . have x1:(c==0)=false:=beq_eq_false_iff_ne.2 h1
   have x2:(l==0)=false:=beq_eq_false_iff_ne.2 h2;have x3:(c==l)=false:=beq_eq_false_iff_ne.2 h3;have x6:decide (n < 1)=true:=decide_eq_true h6;rw [h4] at hrc;rw [h5] at hrl;clear h1 h2 h3 h4 h5 h6;go_enter Tryz.func388,Tryz.ntmps388
   go_wp2_with (go_at_call 169; refine hlv.mono ?_; rintro e w1 ⟨rfl,rfl⟩);go_at_call 390;refine (hrc _).mono ?_;rintro e w1 ⟨rfl,rfl⟩;go_wp2_with fail
   go_at_call 390;refine (hrl _).mono ?_;rintro e w1 ⟨rfl,rfl⟩;go_wp2_with fail
   go_ret;exact ⟨rfl,rfl⟩
 . have x1:(c==0)=false:=beq_eq_false_iff_ne.2 h1
   have x2:(l==0)=false:=beq_eq_false_iff_ne.2 h2;have x3:(c==l)=false:=beq_eq_false_iff_ne.2 h3;have x6:decide (n < 1)=false:=decide_eq_false (by omega);have x7:decide (32767 < n)=true:=decide_eq_true h7;rw [h4] at hrc;rw [h5] at hrl;clear h1 h2 h3 h4 h5 h6 h7;go_enter Tryz.func388,Tryz.ntmps388
   go_wp2_with (go_at_call 169; refine hlv.mono ?_; rintro e w1 ⟨rfl,rfl⟩);go_at_call 390;refine (hrc _).mono ?_;rintro e w1 ⟨rfl,rfl⟩;go_wp2_with fail
   go_at_call 390;refine (hrl _).mono ?_;rintro e w1 ⟨rfl,rfl⟩;go_wp2_with fail
   go_ret;exact ⟨rfl,rfl⟩
theorem PB.define {w:World} {b:Nat} {bm:BM} {t m n:Nat} {cv uv:Value} (hp:F9 w b t m cv uv n bm) (hn:n<=bm.defs.length) (s:Nm) (p:Int) (hs:s.length<=1000000) (hd:bm.defs.length<=1000000) (hw:(Lit.int .i64 p).wf=true) :
 Calls Tryz.prog 391 #[.pointer (some ⟨t,0,none⟩),bK s,.int .i64 p] w (yD (pK bm s p) b (fZ b t m cv uv) w):=by
 refine (UM hp.tab s p hs (by omega) hw).mono ?_;rintro e w1 ⟨rfl,hc,n',hn',ht⟩;obtain ⟨q1,q2,q3,q4,q5,q6⟩:=hp.ne;rw [alS];refine ⟨rfl,hc.more (fun k hk=>.inl (by simp only [List.mem_singleton] at hk; subst hk; simp [fZ,pY])),_,Sub.refl _ _,t,m,cv,uv,n',⟨hp.blk.aj hc (by simpa using q2),ht,aH hp.row hc (fun g hg=>by simp only [List.mem_singleton]; rintro rfl; exact q5 hg)⟩,rfl,?_⟩;show n'<=(Af bm.defs s p).length;omega
def DoP (k:Nat) (caps:Array Value) (Q:World->BM->List Nat->Prop) (r:Int × BM) (b:Nat) (F:List Nat) (w:World):Prop :=
 r.1=0->∀ w1 F1,ah w w1 F->Sub F1 F w->PB w1 b r.2 F1->Calls Tryz.prog k caps w1 fun e w2=>(∃ v,e=.returned v)/\∃ bm2 F2,PB w2 b bm2 F2/\bm2.code.length<=800000/\bm2.uses.length<=1000000/\Q w2 bm2 F2
theorem aed {bm:BM} {c l n:Int} {s:Nm} (h:yV c l n=false):qY bm c l n s=(6,bm):=by unfold qY; rw [if_pos h]
theorem aee {bm:BM} {c l n:Int} {s:Nm} (h:yV c l n=true):qY bm c l n s=((pK bm s (bm.code.length+2)).1,if (pK bm s (bm.code.length+2)).1=0 then { (pK bm s (bm.code.length+2)).2 with code:=bm.code ++ [⟨31,c,0,0,0⟩,⟨31,l,0,0,n⟩] } else bm):=by
 unfold qY pK;rw [if_neg (by rw [h]; decide)]
 cases h1:qH s with
 | false=>simp
 | true =>
  cases h2:(gB bm.defs s).isSome with
  | true=>simp
  | false=>simp
theorem ahK {bm:BM} {s:Nm} {p:Int} (h:(pK bm s p).1≠0):(pK bm s p).2=bm:=by
 unfold pK at h ⊢;split
 . rfl
 . split
   . rfl
   . rename_i h1 h2
     rw [if_neg h1,if_neg h2] at h;exact absurd rfl h
theorem aef {bm:BM} {s:Nm} {p:Int}:(pK bm s p).2.code=bm.code:=by
 unfold pK;split
 . rfl
 . split<;>rfl
theorem aeg {bm:BM} {s:Nm} {p:Int} (h:(pK bm s p).1=0):qH s=true:=by
 cases h1:qH s with
 | true=>rfl
 | false=>unfold pK at h; rw [if_pos h1] at h; simp at h
theorem Zp {bm:BM} {c n:Int} (hc:jC c=true) (h1:-32768<=n) (h2:n<=32767):KJ bm c n=(0,{ bm with code:=bm.code ++ [⟨31,c,0,0,n⟩] }):=by
 unfold KJ vP;rw [if_neg (by rw [hc]; decide),if_pos ⟨h1,h2⟩]
theorem abn {w:World} {b:Nat} {bm:BM} {F:List Nat} (h:PB w b bm F) (c l n:Int) (s:Nm) (k:Nat) (caps:Array Value) (Q:World->BM->List Nat->Prop)
 (hs:s.length<=1000000) (hl:bm.code.length<=800000) (hd:bm.defs.length<=1000000) (hcl:∀ W:World,(callFunc k caps).run Tryz.prog W=.ok (.enter k caps) W) (hdo:DoP k caps Q (qY bm c l n s) b F w) :
 Calls Tryz.prog 388 #[.pointer (some ⟨b,0,none⟩),.int .i64 c,.int .i64 l,.int .i64 n,bK s,.func (.func k) #[] caps] w (abm Q bm b c l n s F w):=by
 cases hb:yV c l n with
 | false =>
  refine (ahJ h c l n s _ hb).mono ?_;rintro e w1 ⟨rfl,rfl⟩;unfold abm;rw [aed hb];exact ⟨fun h0=>absurd (show (6:Int)=0 from h0) (by decide),fun _=>⟨rfl,ah.refl _ _,F,Sub.refl _ _,h⟩⟩
 | true =>
  obtain ⟨h1,h2,h3,h4,h5,h6,h7⟩:=(G6 c l n).1 hb;have ho:=@aee bm c l n s hb;have HO:=hide ho;have qc:=hide hdo;have HP:=hide h;obtain ⟨t,m,cv,uv,z,hp,hF,hz⟩:=h;have hlv:=mW hp;have hrc:=fun W=>xA c W;have hrl:=fun W=>xA l W;rw [h4] at hrc;rw [h5] at hrl;have x1:(c==0)=false:=beq_eq_false_iff_ne.2 h1;have x2:(l==0)=false:=beq_eq_false_iff_ne.2 h2;have x3:(c==l)=false:=beq_eq_false_iff_ne.2 h3;have x6:decide (n < 1)=false:=decide_eq_false (by omega);have x7:decide (32767 < n)=false:=decide_eq_false (by omega);have hw2:wrap64 ((bm.code.length:Int)+2)=(bm.code.length:Int)+2:=by unfold wrap64; omega
  have hdf:=PB.define (hp.aj (ah.refl w []).drew (by simp)) hz s (bm.code.length+2) hs hd (by simp [Lit.wf,IntKind.min,IntKind.max,IntKind.signed,IntKind.bits]; omega);rw [<- hF] at hdf;have c0:=hp.blk.cell' (i:=0) rfl;have c1:=hp.blk.cell' (i:=1) rfl;obtain ⟨A,cc,rfl⟩:=aY hp.row;have H4:=hide h4;have H5:=hide h5;clear ho hdo hp hb h1 h2 h3 h4 h5 hF hz hw2;unfold bK at hdf ⊢;go_enter Tryz.func388,Tryz.ntmps388
  go_wp2_with (go_at_call 169; refine hlv.mono ?_; rintro e w1 ⟨rfl,rfl⟩);go_at_call 390;refine (hrc _).mono ?_;rintro e w1 ⟨rfl,rfl⟩;go_wp2_with fail
  go_at_call 390;refine (hrl _).mono ?_;rintro e w1 ⟨rfl,rfl⟩;go_wp2_with fail
  go_still_tail 11,(by kernel_rfl)
  change wpList _ _ _ _ _ w.drew;go_wp2_with fail
  go_at_call 391;refine hdf.mono ?_;rintro e w1 ⟨rfl,hc1,F1,hs1,hp1⟩;have dG:Hid (ah w w1 F):=hide (((ah.refl w F).drew).trans hc1 (fun k hk=>.inl hk));have fG:Hid (Sub F1 F w):=hide hs1;have dI:=hide hp1;clear hc1 hs1 hp1 hdf;by_cases hde:(pK bm s (bm.code.length+2)).1=0
  . have HN:=hide (aeg hde)
    have HE:=hide hde;have HCD:=hide (@aef bm s (bm.code.length+2));rw [hde];clear hde;generalize hD:(pK bm s (bm.code.length+2)).2=bm0 at *;have asP:=hide (Zp (bm:=bm0) (c:=c) (n:=0) H4.out (by decide) (by decide));have abo:=QM dI.out c 0 (by have:=HCD.out; rw [this]; omega) (by decide) (by decide);rw [asP.out] at abo;have HX1:=hide abo;clear abo;go_wp2_with fail
    go_at_call 392;refine HX1.out.mono ?_;rintro e w2 ⟨rfl,hc2,F2,hs2,hp2⟩;have HC2:=hide hc2;have HS2:=hide hs2;have HP2:=hide hp2;have asQ:=hide (Zp (bm:={ bm0 with code:=bm0.code ++ [⟨31,c,0,0,0⟩] }) (c:=l) (n:=n) H5.out (by omega) (by omega));have abp:=QM hp2 l n (by show (bm0.code ++ _).length<=_; have:=HCD.out; rw [List.length_append,this]; simp; omega) (by omega) (by omega);rw [asQ.out] at abp;have HX2:=hide abp;clear hc2 hs2 hp2 abp;go_wp2_with fail
    go_at_call 392;refine HX2.out.mono ?_;rintro e w3 ⟨rfl,hc3,F3,hs3,hp3⟩;have ho3:=HO.out;rw [HE.out,if_pos rfl] at ho3;have HCd:=HCD.out;simp only [HCd,List.append_assoc] at hp3;have Zq:ah w w3 F:=dG.out.trans (HC2.out.trans hc3 (fun k hk=>HS2.out k hk)) (fun k hk=>fG.out k hk)
    have hS3:Sub F3 F w:=fun k hk=>by
     have q1:=dG.out.size;have q2:=HC2.out.size;rcases hs3 k hk with h | h
     . rcases HS2.out k h with h | h
       . exact fG.out k h
       . exact .inr (by omega)
     . exact .inr (by omega)
    have hq:(qY bm c l n s).1=0:=by rw [ho3]
    have aoi:=qc.out hq w3 F3 Zq hS3 (by rw [ho3]; exact hp3);have HDQ:=hide aoi;have HQ:=hide hq;clear hc3 hs3 hp3 ho3 HCd Zq hS3 hq aoi;have hnf:=fun W=>ahI k caps W;go_wp2_with fail
    refine HDQ.out.mono ?_;rintro e w4 ⟨⟨v,rfl⟩,bm2,F4,jV,hl4,hu4,hQ4⟩;have HQ4:=hide hQ4;have BL:=hide jV;have hi5:=nM jV ⟨31,c,c,0,1⟩ (by omega) (show chk 31 c c 0 1=0 from UR H4.out H4.out (by decide) (by decide));unfold bH at hi5;have HI5:=hide hi5;clear hi5 jV hQ4;go_wp2_with fail
    go_at_call 105;refine HI5.out.mono ?_;rintro e w5 ⟨rfl,hc5,F5,hs5,Zr⟩;have hg6:=ahH Zr 38 c l s hs (by show (bm2.code ++ _).length<=_; rw [List.length_append]; simp; omega) hu4;rw [aeb (bm:={ bm2 with code:=bm2.code ++ [⟨31,c,c,0,1⟩] }) (s:=s) (by decide) (alX H4.out H5.out) HN.out] at hg6;have HG6:=hide hg6;have ig:=hide hc5;have su:=hide hs5;unfold bK at HG6;clear hc5 hs5 Zr hg6;go_wp2_with fail
    go_at_call 393;refine HG6.out.mono ?_;intro e w6 DL;have hG:=yD.mk2 ig.out su.out DL;obtain ⟨rfl,hc6,F6,hs6,QN⟩:=hG;have BN:=hide hc6;have HS6:=hide hs6;have Zt:=hide QN;clear DL hc6 hs6 QN;go_wp2;go_ret;refine ⟨fun _=>⟨w4,bm2,F4,HQ4.out,rfl,BN.out,F6,HS6.out,?_⟩,fun h=>absurd HQ.out h⟩;have hp:=Zt.out
    simpa [MV] using hp
  . have hb2:=ahK hde
    rw [hb2] at dI;have ho3:=HO.out;rw [if_neg hde] at ho3;have Ag:=hide ho3;have HDE:=hide hde;have hx:((pK bm s (bm.code.length+2)).1==0)=false:=beq_eq_false_iff_ne.2 hde;clear hb2 ho3 HO qc;generalize (pK bm s (bm.code.length+2)).1=e0 at *;clear hde;go_wp2;go_ret;unfold abm;rw [Ag.out];exact ⟨fun h=>absurd h HDE.out,fun _=>⟨rfl,dG.out,F1,fG.out,dI.out⟩⟩
theorem abq (w:World):Calls Tryz.prog 139 #[] w fun e w'=>e=.returned (.pointer (some ⟨w.heap.size+1,0,none⟩))/\w'=(w.alloc (.map #[] 0)).alloc (.cells #[.map (some w.heap.size),.slice none 0 0] 273):=by
 have hmm:=@run_makeMap Tryz.prog;go_enter Tryz.func139,Tryz.ntmps139
 go_wp2;go_ret;exact ⟨rfl,rfl⟩
theorem aeh (w:World):Calls Tryz.prog 81 #[] w fun e w'=>∃ b F,e=.returned (.pointer (some ⟨b,0,none⟩))/\ah w w' []/\PB w' b ⟨[],[],[]⟩ F/\∀ k∈F,w.heap.size<=k:=by
 have hl:=abq w;go_enter Tryz.func81,Tryz.ntmps81
 go_wp2_with fail
 go_at_call 139;refine hl.mono ?_;rintro e w1 ⟨rfl,hw⟩
 have hM:lK w1 9 w.heap.size 0 (Ae []):=by
  rw [hw];have h:=(lK.made w 9).alloc (.cells #[.map (some w.heap.size),.slice none 0 0] 273);have e:(fun _=>none:Lit->Option Int)=Ae []:=by funext k; cases k<;>rfl
  rw [e] at h;exact h
 have hT:aC w1 (w.heap.size+1) 273 [.map (some w.heap.size),.slice none 0 0]:=by
  rw [hw];have h:=aC.new (w.alloc (.map #[] 0)) 273 [.map (some w.heap.size),.slice none 0 0];rw [size_alloc] at h;exact h
 have hC:ah w w1 []:=by rw [hw]; exact ((ah.refl w []).alloc _).alloc _
 have hz:w1.heap.size=w.heap.size+2:=by rw [hw]; simp
 have HM:=hide hM;have HT:=hide hT;have HC:=hide hC;have HZ:=hide hz;clear hw hM hT hC hl hz;go_wp2;go_ret;have hB:=aC.new w1 224 [.pointer (some ⟨w.heap.size+1,0,none⟩),.slice none 0 0];refine ⟨_,_,rfl,HC.out.alloc _,⟨w.heap.size+1,w.heap.size,.slice none 0 0,.slice none 0 0,0,⟨hB,⟨HT.out.alloc _,HM.out.alloc _,World.ownsRow_nil _ _ _ _⟩,World.ownsRow_nil _ _ _ _⟩,rfl,Nat.le_refl _⟩,?_⟩;intro k hk;have:=HZ.out;simp [fZ,pY,Value.ownBlock] at hk;omega
def Fine (bm:BM):Prop:=(∀ p∈bm.defs,0<=p.2/\p.2<=1000000)/\(∀ p∈bm.uses,(0<=p.2/\p.2<=1000000)/\p.1.length<=1000000)
theorem aej {l:List (Nm × Int)} {s:Nm} {q:Int} (h:gB l s=some q):∃ p∈l,p.2=q:=by
 unfold gB at h
 cases hf:l.find? (fun p=>p.1==s) with
 | none=>rw [hf] at h; simp at h
 | some p=>rw [hf] at h; simp at h; exact ⟨p,List.mem_of_find?_eq_some hf,h⟩
theorem QO {defs:List (Nm × Int)} (hd:∀ p∈defs,0<=p.2/\p.2<=1000000):∀ (uses:List (Nm × Int)) (fx:List (Int × Int)),(∀ p∈uses,0<=p.2/\p.2<=1000000)->mV defs uses=.ok fx->fx.length=uses.length/\∀ x∈fx,(0<=x.1/\x.1<=1000000)/\0<=x.2/\x.2<=1000000
 | [],fx,_,h=>by
  simp only [mV,Except.ok.injEq] at h;subst h;exact ⟨rfl,by simp⟩
 | (s,p) :: r,fx,hu,h=>by
  cases hf:gB defs s with
  | none=>rw [QJ hf] at h; cases h
  | some q =>
   rw [QK hf] at h
   cases hr:mV defs r with
   | error e=>rw [hr] at h; cases h
   | ok l =>
    rw [hr] at h;simp only [Except.ok.injEq] at h;subst h;obtain ⟨h1,h2⟩:=QO hd r l (fun p hp=>hu p (List.mem_cons_of_mem _ hp)) hr;refine ⟨by simp [h1],fun x hx=>?_⟩;rcases List.mem_cons.1 hx with rfl | hx
    . obtain ⟨d,hd1,hd2⟩:=aej hf
      have:=hd d hd1;rw [hd2] at this;exact ⟨hu (s,p) (List.mem_cons_self ..),this⟩
    . exact h2 x hx
def vX (l:List (Int × Int)):Lit->Option Int
 | .int .i64 k=>yX l k
 | _=>none
theorem abt (l:List (Int × Int)) (p:Int × Int) (k:Int):yX (l ++ [p]) k=if p.1=k then some p.2 else yX l k:=by
 unfold yX;rw [List.foldl_append];rfl
open Classical in
theorem ahL (l:List (Int × Int)) (p:Int × Int):KN (vX l) (.int .i64 p.1) p.2=vX (l ++ [p]):=by
 funext k;unfold KN
 cases k with
 | int q k =>
  cases q with
  | i64 =>
   show (if Lit.int .i64 k=Lit.int .i64 p.1 then some p.2 else yX l k)=yX (l ++ [p]) k;rw [abt];by_cases e:p.1=k
   . rw [if_pos e,if_pos (by rw [e])]
   . rw [if_neg e,if_neg (by simpa using fun h=>e h.symm)]
  | _=>rw [if_neg (by simp)]; rfl
 | _=>rw [if_neg (by simp)]; rfl
theorem kP:Keyed Tryz.prog 3:=int_keyed Tryz.underlying3
theorem wf64 {k:Int} (h0:0<=k) (h1:k<=1000000):(Lit.int .i64 k).wf=true:=by simp [Lit.wf,IntKind.min,IntKind.max,IntKind.signed,IntKind.bits]; omega
theorem vY {k:Int} (h0:0<=k) (h1:k<=1000000):keyOf Tryz.prog 3 (.int .i64 k)=some (.int .i64 k):=keyOf_int_mk Tryz.underlying3 (wf64 h0 h1)
def jo (l:List Int):List Value:=l.map (Value.int .u32)
theorem QS (l:List Int) (x:Int):jo (l ++ [x])=jo l ++ [.int .u32 x]:=by simp [jo]
theorem ahM:(Tryz.prog.info? 124).map (fun i=>(i.zero,i.size,i.bytes))=some (some (.int .u32 0),1,4):=by kernel_rfl
theorem Zu (i:aW) (w:World):Calls Tryz.prog 112 #[bH i] w fun e w'=>(∃ z,e=.returned (.tuple #[.int .u32 (encI i),.int .i64 z]))/\ah w w' []:=by
 obtain ⟨op,d,a,b,n⟩:=i;by_cases h:chk op d a b n=0
 . refine (CY op d a b n w h).mono ?_
   rintro e w' ⟨rfl,hc⟩;have he:encI ⟨op,d,a,b,n⟩=pJ op d a b n 4:=by unfold encI jU; rw [if_pos h]
   rw [he];exact ⟨⟨_,rfl⟩,hc⟩
 . refine (abr op d a b n w h).mono ?_
   rintro e w' ⟨rfl,hc⟩;have he:encI ⟨op,d,a,b,n⟩=0:=by unfold encI jU; rw [if_neg h]
   rw [he];exact ⟨⟨_,rfl⟩,hc⟩
theorem Zv:∀ (l:List aW) (k:Nat) (x:aW),l[k]?=some x->(codeCells l)[k * 5]?=some (.int .i64 x.op)/\(codeCells l)[k * 5+1]?=some (.int .i64 x.d)/\(codeCells l)[k * 5+2]?=some (.int .i64 x.a)/\(codeCells l)[k * 5+3]?=some (.int .i64 x.b)/\(codeCells l)[k * 5+4]?=some (.int .i64 x.n)
 | [],k,x,e=>by simp at e
 | y :: l,0,x,e=>by simp at e; subst e; exact ⟨rfl,rfl,rfl,rfl,rfl⟩
 | y :: l,k+1,x,e=>by
  have:=Zv l k x (by simpa using e);have hc:codeCells (y :: l)=vV y ++ codeCells l:=rfl;rw [hc,show (k+1) * 5=k * 5+5 by omega];exact this
theorem abu {fx:List (Int × Int)} {code:List aW} {k:Nat} {x:aW} (h:code[k]?=some x):(uO fx code).take (k+1)=(uO fx code).take k ++ [encI (patched fx k x)]:=by
 rw [List.take_add_one];congr 1;unfold uO;rw [List.getElem?_mapIdx,h];rfl
theorem aek (fx:List (Int × Int)) (code:List aW):(uO fx code).length=code.length:=by simp [uO]
def asW (r:List Int × Nm × Int) (w:World) (e:Ending) (w':World):Prop:=ah w w' []/\∃ v,e=.returned (.tuple #[v,bK r.2.1,.int .i64 r.2.2])/\Sl w' v (jo r.1)/\∀ A n c,v=.slice (some A) n c->w.heap.size<=A.block
theorem ahN:(fun _=>none:Lit->Option Int)=vX []:=by
 funext k
 cases k with
 | int q k=>cases q<;>rfl
 | _=>rfl
theorem ael {fx:List (Int × Int)} {k:Nat} {p q:Int} (h:fx[k]?=some (p,q)):KN (vX (fx.take k)) (.int .i64 p) q=vX (fx.take (k+1)):=by
 rw [List.take_add_one,h];exact ahL (fx.take k) (p,q)
theorem ahO {bm:BM} {s:Nm} (h:mV bm.defs bm.uses=.error s):KL bm=([],s,10):=by unfold KL; rw [h]
theorem alY {bm:BM} {fx:List (Int × Int)} (h:mV bm.defs bm.uses=.ok fx) (hl:bm.code.length<=16384):KL bm=(uO fx bm.code,[],0):=by unfold KL; rw [h]; simp only []; rw [if_neg (by omega)]
theorem R_ {w:World} {b:Nat} {bm:BM} {F:List Nat} (h:PB w b bm F) (hf:Fine bm) (hl:bm.code.length<=16384) (hu:bm.uses.length<=100000) (hE:Na w) :
 Calls Tryz.prog 106 #[.pointer (some ⟨b,0,none⟩)] w (asW (KL bm) w):=by
 have hlv:=h.live;obtain ⟨t,m,cv,uv,z,hp,rfl,hz⟩:=h;have hres:=RZ hp.tab (fun p hp=>(hf.2 p hp).2) (by omega) hE;have HP:=hide hp;have HF:=hide hf;have c0:=hp.blk.cell' (i:=0) rfl;clear hp hf hE hz;go_enter Tryz.func106,Tryz.ntmps106
 go_wp2_with (first | (go_at_call 169; refine hlv.mono ?_; rintro e w1 ⟨rfl,rfl⟩) | (go_at_call 171; refine hres.mono ?_));rintro e w1 ⟨hc,hr⟩;have HC:=hide hc;have dI:=hide (HP.out.aj hc (by simp));clear hres;rcases hr with ⟨s,hr,rfl⟩ | ⟨fx,v,hr,rfl,ho⟩
 . have HFE:=hide (ahO hr)
   clear hc hr c0 hlv;go_wp2;refine bodyPost_ret (results_tmp3 rfl _ _ _) rfl ?_;rw [HFE.out];exact ⟨HC.out,.slice none 0 0,rfl,⟨none,0,rfl,Nat.le_refl _,fun h0=>absurd h0 (by simp [jo])⟩,fun A n c e=>by cases e⟩
 . have HFE:=hide (alY hr hl)
   have abv:=QO HF.out.1 bm.uses fx (fun p hp=>(HF.out.2 p hp).1) hr;have UU:=hide abv.2;have hfl:fx.length<=100000:=by rw [abv.1]; exact hu
   have c1:=dI.out.blk.cell' (i:=1) rfl;have HO:=hide ho;have HRC:=hide dI.out.row;obtain ⟨A,c,hAc,hx⟩:=oL ho;have HX:=hide hx;obtain ⟨A2,c2,hA2,hx2⟩:=oL dI.out.row;have HX2:=hide hx2;have hbl:=dI.out.blk.lt;subst hAc;rw [hA2] at c1;have hmm:=@run_makeMap Tryz.prog;clear hc hr c0 hlv ho abv hx hx2 hA2;have hM0:lK (w1.alloc (.map #[] 0)) 3 w1.heap.size 0 (vX []):=by rw [<- ahN]; exact lK.made w1 3
   have HM0:=hide hM0;clear hM0;go_wp2;go_loopw [43] (fun i wr=>∃ k:Nat,k<=fx.length/\i=.int .i64 k/\Hid (ah w1 wr [])/\∃ n:Nat,n<=k/\Hid (lK wr 3 w1.heap.size n (vX (fx.take k)))) (fun i _=>fx.length - (intOf i).toNat)
   case atStart=>exact ⟨0,Nat.zero_le _,rfl,hide ((ah.refl w1 []).alloc _),0,Nat.le_refl _,by simpa using HM0⟩
   case round =>
    obtain ⟨k,hk,rfl,HR,n,hn,HM⟩:=hrel;by_cases hlt:k < fx.length
    . obtain ⟨g,rfl,hgl,hgb,hcells⟩:=HX.out (by omega)
      obtain ⟨⟨p,q⟩,hsp⟩:∃ x,fx[k]?=some x:=⟨fx[k],by simp [hlt]⟩
      obtain ⟨q0,q1⟩:=Px (fun p:Int × Int=>.int .i64 p.1) (fun p=>.int .i64 p.2) fx k (p,q) hsp;have ca:=HR.out.cell (hcells _ _ q0) (by simp);have cb:=HR.out.cell (hcells _ _ q1) (by simp);have hpq:=UU.out (p,q) (List.mem_of_getElem? hsp);have HST:=hide (ael hsp);have hky:=vY hpq.1.1 hpq.1.2;have hwq:=wf64 hpq.2.1 hpq.2.2;have hgr:g < wr.heap.size:=by have:=HR.out.size; omega
      clear hcells hsp q0 q1;go_wp2_with (at_mapUpdate; refine JI rfl _ _ _ 241 rfl 3 kP Tryz.underlying241 w1.heap.size n (vX (fx.take k)) rfl (HM.out.alloc _) (by unfold maxLen; omega) _ (.int .i64 p) rfl hky trivial q rfl hwq ?_);intro w4 hm4 hc4;rw [HST.out] at hm4;have UW:=hide hm4;have gV:Hid (ah w1 w4 []):=hide ((HR.out.alloc _).trans hc4 (fun k hk=>.inr (by simp only [List.mem_singleton] at hk; omega)));clear hm4 hc4;go_wp2;go_roundw
      case rel=>exact ⟨k+1,by omega,by go_num,gV,n+1,by omega,UW⟩
      case measure=>simp [intOf]; omega
    . have hk2:k=fx.length:=by omega
      subst hk2;have abw:=HM.out;rw [List.take_length] at abw;have UY:=hide abw;have hml:=abw.lt;have d1:=HR.out.cell c1 (by simp);clear abw HM;go_wp2;go_loopw [11,58] (fun v i w2=>∃ k:Nat,k<=bm.code.length/\i=.int .i64 k/\Hid (ah w1 w2 [])/\Hid (w2.ownsRow w1.heap.size 124 1 v k (jo ((uO fx bm.code).take k)))/\Hid (lK w2 3 w1.heap.size n (vX fx))) (fun _ i _=>bm.code.length - (intOf i).toNat)
      case atStart=>exact ⟨0,Nat.zero_le _,rfl,HR,hide (World.ownsRow_nil _ _ _ _),UY⟩
      case round =>
       obtain ⟨k2,hk2,rfl,HR2,BK,QH⟩:=hrel;by_cases hlt2:k2 < bm.code.length
       . obtain ⟨g,hg,hgl,hgb,hcells⟩:=HX2.out (by omega)
         subst hg;obtain ⟨x,hsx⟩:∃ x,bm.code[k2]?=some x:=⟨bm.code[k2],by simp [hlt2]⟩
         obtain ⟨q0,q1,q2,q3,q4⟩:=Zv bm.code k2 x hsx;have ca0:=HR2.out.cell (hcells _ _ q0) (by simp);have ca1:=HR2.out.cell (hcells _ _ q1) (by simp);have ca2:=HR2.out.cell (hcells _ _ q2) (by simp);have ca3:=HR2.out.cell (hcells _ _ q3) (by simp);have ca4:=HR2.out.cell (hcells _ _ q4) (by simp);have HT:=hide (abu (fx:=fx) hsx);obtain ⟨op,d,a,b1,n1⟩:=x;have hky:=vY (k:=k2) (by omega) (by omega);have hgr:g < wr.heap.size:=by have:=HR2.out.size; omega
         obtain ⟨i0,hi,hz0,hz1,hz2⟩:=info_parts ahM;obtain ⟨Ao,co,rfl⟩:=aY BK.out;clear hcells hsx q0 q1 q2 q3 q4
         cases hq:yX fx k2 with
         | none =>
          have hen:=fun W=>Zu ⟨op,d,a,b1,n1⟩ W;have hpt:patched fx k2 ⟨op,d,a,b1,n1⟩=⟨op,d,a,b1,n1⟩:=by unfold patched; rw [hq]
          unfold bH at hen;have hlk:vX fx (.int .i64 k2)=none:=hq;clear hq;go_wp2_with (at_lookup; refine qJ rfl _ _ 241 rfl 3 kP Tryz.underlying241 w1.heap.size n (vX fx) rfl (QH.out.alloc _) _ (.int .i64 k2) rfl hky trivial ?_; rw [hlk]);go_at_call 112;refine (hen _).mono ?_;rintro e w4 ⟨⟨z4,rfl⟩,hc4⟩;have hc24:ah wr w4 []:=((ah.refl wr []).alloc _).trans hc4 (by simp);have gV:=hide hc24;have mg:=hide (aH BK.out hc24 (fun g hg=>by simp));have UW:=hide (QH.out.aj hc24 (by simp));have HTT:=hide (HT.out.trans (by rw [hpt]));clear hc4 hc24 hpt hlk hen HT;generalize encI _=ee at HTT ⊢;go_wp2_with (at_builtin; refine wpList_append_own _ rfl _ _ 61 rfl w1.heap.size 124 i0 (.int .u32 0) 1 4 Tryz.underlying61 hi hz0 hz1 hz2 rfl (by decide) _ k2 _ rfl (mg.out.alloc _) ⟨w4.heap.size,0,none⟩ 1 1 [.int .u32 ee] rfl rfl ?c1 ?c2 ?c3 ?c4 ?c5 ?_)
          case c1 =>
           intro j u hj
           match j,hj with
           | 0,hj=>simp at hj; subst hj; simp [Addr.add]
          case c2=>intro u hu; simp at hu; subst hu; rfl
          case c3=>unfold maxLen; omega
          case c4=>omega
          case c5=>have:=HR2.out.size; have:=gV.out.size; simp; omega
          intro v' w5 hown' hgrow _;have Ah:ah w4 w5 (Value.slice Ao k2 co).ownBlock.toList:=((ah.refl w4 _).alloc _).trans (ah.eF hgrow (fun k hk=>.inl (by simp [hk]))) (fun k hk=>.inl hk)
          have hM5:=UW.out.aj Ah (fun hm=>by
           have hm':=Option.mem_toList.1 hm;obtain ⟨cur,hcur⟩:=iY mg.out hm';obtain ⟨es,kk,hes⟩:=UW.out.obj
           exact Nb hcur hes rfl)
          have Nh:ah w1 w5 []:=(HR2.out.trans gV.out (by simp)).trans Ah (fun k hk=>.inr (by have:=(mg.out.lt k (Option.mem_toList.1 hk)).1; exact this));have UZ:=hide hM5;have ig:=hide Nh;have uP:=hide hown';obtain ⟨A6,c6,rfl⟩:=aY hown';clear hown' hgrow Ah hM5 Nh;go_wp2;go_roundw
          case rel =>
           refine ⟨k2+1,by omega,by go_num,ig,?_,UZ⟩;rw [HTT.out,QS];exact uP
          case measure=>simp [intOf]; omega
         | some tq =>
          have hen:=fun W=>Zu ⟨op,d,a,b1,tq⟩ W;have hpt:patched fx k2 ⟨op,d,a,b1,n1⟩=⟨op,d,a,b1,tq⟩:=by unfold patched; rw [hq]
          unfold bH at hen;have hlk:vX fx (.int .i64 k2)=some tq:=hq;clear hq;go_wp2_with (at_lookup; refine qJ rfl _ _ 241 rfl 3 kP Tryz.underlying241 w1.heap.size n (vX fx) rfl (QH.out.alloc _) _ (.int .i64 k2) rfl hky trivial ?_; rw [hlk]);go_at_call 112;refine (hen _).mono ?_;rintro e w4 ⟨⟨z4,rfl⟩,hc4⟩;have hc24:ah wr w4 []:=((ah.refl wr []).alloc _).trans hc4 (by simp);have gV:=hide hc24;have mg:=hide (aH BK.out hc24 (fun g hg=>by simp));have UW:=hide (QH.out.aj hc24 (by simp));have HTT:=hide (HT.out.trans (by rw [hpt]));clear hc4 hc24 hpt hlk hen HT;generalize encI _=ee at HTT ⊢;go_wp2_with (at_builtin; refine wpList_append_own _ rfl _ _ 61 rfl w1.heap.size 124 i0 (.int .u32 0) 1 4 Tryz.underlying61 hi hz0 hz1 hz2 rfl (by decide) _ k2 _ rfl (mg.out.alloc _) ⟨w4.heap.size,0,none⟩ 1 1 [.int .u32 ee] rfl rfl ?c1 ?c2 ?c3 ?c4 ?c5 ?_)
          case c1 =>
           intro j u hj
           match j,hj with
           | 0,hj=>simp at hj; subst hj; simp [Addr.add]
          case c2=>intro u hu; simp at hu; subst hu; rfl
          case c3=>unfold maxLen; omega
          case c4=>omega
          case c5=>have:=HR2.out.size; have:=gV.out.size; simp; omega
          intro v' w5 hown' hgrow _;have Ah:ah w4 w5 (Value.slice Ao k2 co).ownBlock.toList:=((ah.refl w4 _).alloc _).trans (ah.eF hgrow (fun k hk=>.inl (by simp [hk]))) (fun k hk=>.inl hk)
          have hM5:=UW.out.aj Ah (fun hm=>by
           have hm':=Option.mem_toList.1 hm;obtain ⟨cur,hcur⟩:=iY mg.out hm';obtain ⟨es,kk,hes⟩:=UW.out.obj
           exact Nb hcur hes rfl)
          have Nh:ah w1 w5 []:=(HR2.out.trans gV.out (by simp)).trans Ah (fun k hk=>.inr (by have:=(mg.out.lt k (Option.mem_toList.1 hk)).1; exact this));have UZ:=hide hM5;have ig:=hide Nh;have uP:=hide hown';obtain ⟨A6,c6,rfl⟩:=aY hown';clear hown' hgrow Ah hM5 Nh;go_wp2;go_roundw
          case rel =>
           refine ⟨k2+1,by omega,by go_num,ig,?_,UZ⟩;rw [HTT.out,QS];exact uP
          case measure=>simp [intOf]; omega
       . have hk3:k2=bm.code.length:=by omega
         subst hk3;have ho2:=BK.out;rw [List.take_of_length_le (by rw [aek]; omega)] at ho2;have Ag:=hide ho2;obtain ⟨A6,c6,rfl⟩:=aY ho2;clear ho2 BK;go_wp2;refine bodyPost_ret (results_tmp3 rfl _ _ _) rfl ?_;rw [HFE.out]
         exact ⟨HC.out.trans HR2.out (by simp),_,rfl,Sl.own Ag.out,fun A n c e=>by
          injection e with e;have:=(Ag.out.lt A.block (by rw [e]; rfl)).1
          exact Nat.le_trans HC.out.size this⟩
