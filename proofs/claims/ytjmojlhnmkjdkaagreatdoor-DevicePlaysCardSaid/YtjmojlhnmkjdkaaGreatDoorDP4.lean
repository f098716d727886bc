/- Texts of this claim, side by side. -/
import Derived.Test.YtjmojlhnmkjdkaaGreatDoorDP3
import Derived.StillTailTactics
set_option linter.unusedVariables false
set_option maxRecDepth 100000
set_option maxHeartbeats 8000000
namespace Go.Proofs.YtjmojlhnmkjdkaaGreatDoor
open Go.RowKit Go.Deep Go.Maps
attribute [local go_sem] Oper.semAt_some
theorem amf(bm:BM)(s:Nm)(p:Int):pO bm s p=(C9 bm.defs s,{ bm with defs:=Ag bm.defs s p }):=by
 unfold pO Ag C9
 cases h:qJ s with
 | false=>simp
 | true=>cases h2:(gJ bm.defs s).isSome<;>simp
theorem Gj.lt{w:World}{b t m n:Nat}{cv uv:Value}{bm:BM}(h:Gj w b t m cv uv n bm):∀ k∈gq b t m cv uv,k<w.heap.size:=by
 intro k hk;simp only [gq,pY,List.mem_append,List.mem_cons,List.not_mem_nil,or_false,Option.mem_toList] at hk;rcases hk with(rfl | hk) | (rfl | rfl) | hk
 . exact h.blk.lt
 . exact(h.row.lt k hk).2
 . exact h.tab.blk.lt
 . exact h.tab.map.lt
 . exact(h.tab.row.lt k hk).2
theorem PB.lt{w:World}{b:Nat}{bm:BM}{F:List Nat}(h:PB w b bm F):∀ k∈F,k<w.heap.size:=by
 obtain⟨t,m,cv,uv,n,hp,rfl,_⟩:=h;exact hp.lt
theorem amg{bm:BM}{op d a:Int}{s:Nm}(h:BJ op=false):Nq bm op d a s=(2,bm):=by unfold Nq; rw [if_pos h]
theorem amh{bm:BM}{op d a:Int}{s:Nm}(h:BJ op=true)(h2:chk op d a 0 0≠0):Nq bm op d a s=(chk op d a 0 0,bm):=by
 unfold Nq jV; rw [if_neg (by rw [h]; decide),if_pos h2]
theorem ah5{bm:BM}{op d a:Int}{s:Nm}(h:BJ op=true)(h2:chk op d a 0 0=0)(h3:qJ s=false):Nq bm op d a s=(8,bm):=by
 unfold Nq jV; rw [if_neg (by rw [h]; decide),if_neg (by simp [h2]),if_pos h3]
theorem aeu{bm:BM}{op d a:Int}{s:Nm}(h:BJ op=true)(h2:chk op d a 0 0=0)(h3:qJ s=true):Nq bm op d a s=(0,{ bm with uses:=bm.uses++[(s,(bm.code.length:Int))],code:=bm.code++[⟨op,d,a,0,0⟩] }):=by
 unfold Nq jV; rw [if_neg (by rw [h]; decide),if_neg (by simp [h2]),if_neg (by rw [h3]; decide)]
theorem Zw{bm:BM}{i:aW}(h:jV i=0):G9 bm i=(0,{ bm with code:=bm.code++[i] }):=by unfold G9; simp [h]
def yK(r:Int×BM)(b:Nat)(F:List Nat)(w:World)(e:Ending)(w':World):Prop:=e=.returned (.int .i64 r.1)/\ah w w' F/\∃ F',Sub F' F w/\PB w' b r.2 F'
theorem ah6 {w:World} {b:Nat} {bm:BM} {F:List Nat} (h:PB w b bm F) (op d a:Int) (s:Nm) (hs:s.length<=1000000) (hl:bm.code.length<=900000) (hu:bm.uses.length<=1000000) :
 Calls Tryz.prog 393 #[.pointer (some ⟨b,0,none⟩),.int .i64 op,.int .i64 d,.int .i64 a,bH s] w (yK (Nq bm op d a s) b F w):=by
 have hlt:=h.lt;obtain⟨t,m,cv,uv,n,hp,rfl,hn⟩:=h;have HP:=hide hp;have hnx:=hide hn;have qM:=hide hlt;have hq:∀ k∈gq b t m cv uv,k∉[w.heap.size]:=fun k hk=>by have:=hlt k hk; simp; omega
 have hck:=check_any op d a 0 0 (w.alloc (.cells #[.int .i64 op,.int .i64 d,.int .i64 a,.int .i64 0,.int .i64 0] 126));clear hp hn hlt
 cases hg:BJ op with
 | false =>
  rw [amg hg];have hgo:=fun W=>zi op W;rw [hg] at hgo;clear hg;unfold bH kK at *;go_enter Tryz.func393,Tryz.ntmps393
  go_wp2_with fail
  go_at_call 170;refine hck.mono ?_;rintro e w1 ⟨rfl,hc⟩;have hc0:ah w w1 []:=((ah.refl w []).alloc _).trans hc (by simp);have dL:=hide (HP.out.aj hc0 (by simp));have hlv:=mQ dL.out;have HC:=hide hc0;clear hc hc0 hck;go_wp2_with (first | (go_at_call 169; refine hlv.mono ?_; rintro e w1 ⟨rfl,rfl⟩) | (go_at_call 395; refine(hgo _).mono ?_; rintro e w1 ⟨rfl,rfl⟩));go_ret;exact⟨rfl,HC.out.more (by simp),_,Sub.refl _ _,t,m,cv,uv,n,dL.out,rfl,hnx.out⟩
 | true =>
  by_cases h0:chk op d a 0 0=0
  . cases hi:qJ s with
    | false =>
     rw [ah5 hg h0 hi];rw [h0] at hck;have hgo:=fun W=>zi op W;rw [hg] at hgo;have em:t_ s=8:=by unfold t_; rw [hi]; rfl
     have eu:EK bm.uses s bm.code.length=bm.uses:=by unfold EK; rw [hi]; rfl
     have HEM:=hide em;have HEU:=hide eu;clear hg h0 hi em eu;unfold bH kK at *;go_enter Tryz.func393,Tryz.ntmps393
     go_wp2_with fail
     go_at_call 170;refine hck.mono ?_;rintro e w1 ⟨rfl,hc⟩;have hc0:ah w w1 []:=((ah.refl w []).alloc _).trans hc (by simp);have dL:=hide (HP.out.aj hc0 (by simp));have hlv:=mQ dL.out;have hbx:=(aC.new w 126 [.int .i64 op,.int .i64 d,.int .i64 a,.int .i64 0,.int .i64 0]).aj hc (by simp);have HBX:=hide hbx;have HC:=hide hc0;have c0:=dL.out.blk.cell' (i:=0) rfl;have c1:=dL.out.blk.cell' (i:=1) rfl;have hus:=QO (dL.out.tab.aj (ah.refl w1 []).drew (by simp)) s bm.code.length hs hu;rw [HEM.out,HEU.out] at hus;obtain⟨A,c,rfl⟩:=bK dL.out.row;unfold bH at hus;clear hc hc0 hbx hck;go_wp2_with (first | (go_at_call 169; refine hlv.mono ?_; rintro e w1 ⟨rfl,rfl⟩) | (go_at_call 395; refine(hgo _).mono ?_; rintro e w1 ⟨rfl,rfl⟩));go_still_tail 10,(by kernel_rfl)
     change wpList _ _ _ _ _ w1.drew;go_wp2_with fail
     go_at_call 396;refine hus.mono ?_;rintro e w2 ⟨rfl,hc2,uv',hrn,ht2⟩
     have hsub:∀ k∈[t]++uv.ownBlock.toList,k∈gq b t m (.slice A bm.code.length c) uv:=fun k hk=>by
      simp only [gq,pY,List.mem_append,List.mem_cons,List.not_mem_nil,or_false] at hk ⊢;rcases hk with hk | hk
      . exact .inr (.inl (.inl hk))
      . exact .inr (.inr hk)
     have hc2':ah w1 w2 ([t]++uv.ownBlock.toList):=((ah.refl w1 []).drew.more (by simp)).trans hc2 (fun k hk=>.inl hk);obtain⟨q1,q2,q3,q4,q5,q6⟩:=dL.out.ne
     have hP2:Gj w2 b t m (.slice A bm.code.length c) uv' n bm:=⟨dL.out.blk.aj hc2' (fun hm=>by
      simp only [List.mem_append,List.mem_singleton,Option.mem_toList] at hm;rcases hm with hm | hm
      . exact q1 hm
      . exact(q6 b hm).1 rfl),ht2,aH dL.out.row hc2' (fun g hg hm=>by
      simp only [List.mem_append,List.mem_singleton,Option.mem_toList] at hm;rcases hm with rfl | hm
      . exact q4 hg
      . exact(q6 g hm).2 hg)⟩
     have hF1:Sub (gq b t m (.slice A bm.code.length c) uv') (gq b t m (.slice A bm.code.length c) uv) w:=fun k hk=>by
      simp only [gq,pY,List.mem_append,List.mem_cons,List.not_mem_nil,or_false,Option.mem_toList] at hk ⊢;rcases hk with hk | hk | hk
      . exact .inl (.inl hk)
      . exact .inl (.inr (.inl hk))
      . rcases hrn with h | ⟨g,h,hg⟩
        . exact .inl (.inr (.inr (by rw [<- h]; exact hk)))
        . rw [h] at hk
          injection hk with hk;subst hk;have:w1.heap.size<=g:=hg;exact .inr (by have:=HC.out.size; omega)
     have jR:=hide hF1;have HC2:Hid (ah w w2 (gq b t m (.slice A bm.code.length c) uv)):=hide ((HC.out.more (by simp)).trans (hc2'.more (fun k hk=>.inl (hsub k hk))) (fun k hk=>.inl hk));have HP2:=hide hP2;clear hc2 hc2' ht2 hP2 hF1 q1 q2 q3 q4 q5 q6 hrn hsub hus;go_wp2;go_ret;exact⟨rfl,HC2.out,_,jR.out,t,m,_,uv',n,HP2.out,rfl,hnx.out⟩
    | true =>
     rw [aeu hg h0 hi];rw [h0] at hck;have hgo:=fun W=>zi op W;rw [hg] at hgo;have em:t_ s=0:=by unfold t_; rw [hi]; rfl
     have eu:EK bm.uses s bm.code.length=bm.uses++[(s,(bm.code.length:Int))]:=by unfold EK; rw [hi]; rfl
     have HI:=hide (Zw (bm:={ bm with uses:=bm.uses++[(s,(bm.code.length:Int))] }) (i:=⟨op,d,a,0,0⟩) h0);have HEM:=hide em;have HEU:=hide eu;clear hg h0 hi em eu;unfold bH kK at *;go_enter Tryz.func393,Tryz.ntmps393
     go_wp2_with fail
     go_at_call 170;refine hck.mono ?_;rintro e w1 ⟨rfl,hc⟩;have hc0:ah w w1 []:=((ah.refl w []).alloc _).trans hc (by simp);have dL:=hide (HP.out.aj hc0 (by simp));have hlv:=mQ dL.out;have hbx:=(aC.new w 126 [.int .i64 op,.int .i64 d,.int .i64 a,.int .i64 0,.int .i64 0]).aj hc (by simp);have HBX:=hide hbx;have HC:=hide hc0;have c0:=dL.out.blk.cell' (i:=0) rfl;have c1:=dL.out.blk.cell' (i:=1) rfl;have hus:=QO (dL.out.tab.aj (ah.refl w1 []).drew (by simp)) s bm.code.length hs hu;rw [HEM.out,HEU.out] at hus;obtain⟨A,c,rfl⟩:=bK dL.out.row;unfold bH at hus;clear hc hc0 hbx hck;go_wp2_with (first | (go_at_call 169; refine hlv.mono ?_; rintro e w1 ⟨rfl,rfl⟩) | (go_at_call 395; refine(hgo _).mono ?_; rintro e w1 ⟨rfl,rfl⟩));go_still_tail 10,(by kernel_rfl)
     change wpList _ _ _ _ _ w1.drew;go_wp2_with fail
     go_at_call 396;refine hus.mono ?_;rintro e w2 ⟨rfl,hc2,uv',hrn,ht2⟩
     have hsub:∀ k∈[t]++uv.ownBlock.toList,k∈gq b t m (.slice A bm.code.length c) uv:=fun k hk=>by
      simp only [gq,pY,List.mem_append,List.mem_cons,List.not_mem_nil,or_false] at hk ⊢;rcases hk with hk | hk
      . exact .inr (.inl (.inl hk))
      . exact .inr (.inr hk)
     have hc2':ah w1 w2 ([t]++uv.ownBlock.toList):=((ah.refl w1 []).drew.more (by simp)).trans hc2 (fun k hk=>.inl hk);obtain⟨q1,q2,q3,q4,q5,q6⟩:=dL.out.ne
     have hP2:Gj w2 b t m (.slice A bm.code.length c) uv' n { bm with uses:=bm.uses++[(s,(bm.code.length:Int))] }:=⟨dL.out.blk.aj hc2' (fun hm=>by
      simp only [List.mem_append,List.mem_singleton,Option.mem_toList] at hm;rcases hm with hm | hm
      . exact q1 hm
      . exact(q6 b hm).1 rfl),ht2,aH dL.out.row hc2' (fun g hg hm=>by
      simp only [List.mem_append,List.mem_singleton,Option.mem_toList] at hm;rcases hm with rfl | hm
      . exact q4 hg
      . exact(q6 g hm).2 hg)⟩
     have hin:=QU ⟨t,m,_,uv',n,hP2,rfl,hnx.out⟩ ⟨op,d,a,0,0⟩ (by show bm.code.length<=_; omega);rw [HI.out] at hin;have hbx2:=HBX.out.aj hc2' (fun hm=>hq _ (hsub _ hm) (by simp));have x0:=hbx2.cell' (i:=0) rfl;have x1:=hbx2.cell' (i:=1) rfl;have x2:=hbx2.cell' (i:=2) rfl;have x3:=hbx2.cell' (i:=3) rfl;have x4:=hbx2.cell' (i:=4) rfl
     have hF1:Sub (gq b t m (.slice A bm.code.length c) uv') (gq b t m (.slice A bm.code.length c) uv) w:=fun k hk=>by
      simp only [gq,pY,List.mem_append,List.mem_cons,List.not_mem_nil,or_false,Option.mem_toList] at hk ⊢;rcases hk with hk | hk | hk
      . exact .inl (.inl hk)
      . exact .inl (.inr (.inl hk))
      . rcases hrn with h | ⟨g,h,hg⟩
        . exact .inl (.inr (.inr (by rw [<- h]; exact hk)))
        . rw [h] at hk
          injection hk with hk;subst hk;have:w1.heap.size<=g:=hg;exact .inr (by have:=HC.out.size; omega)
     have jR:=hide hF1;have HC2:Hid (ah w w2 (gq b t m (.slice A bm.code.length c) uv)):=hide ((HC.out.more (by simp)).trans (hc2'.more (fun k hk=>.inl (hsub k hk))) (fun k hk=>.inl hk));unfold bD at hin;clear hc2 hc2' ht2 hP2 hbx2 hF1 q1 q2 q3 q4 q5 q6 hrn hsub hus;go_wp2_with fail
     go_at_call 105;refine hin.mono ?_;rintro e w3 ⟨rfl,hc3,F',hs3,hp3⟩;have jC:=hide hc3;have U6:=hide hs3;have U7:=hide hp3;clear hc3 hs3 hp3 hin;go_wp2;go_ret;refine⟨rfl,HC2.out.trans jC.out (fun k hk=>jR.out k hk),F',fun k hk=>?_,U7.out⟩;rcases U6.out k hk with h | h
     . exact jR.out k h
     . exact .inr (by have:=HC2.out.size; omega)
  . skip
    rw [amh hg h0];have hgo:=fun W=>zi op W;rw [hg] at hgo;have hx0:(chk op d a 0 0==0)=false:=beq_eq_false_iff_ne.2 h0;generalize chk op d a 0 0=e0 at *;clear hg h0;unfold bH kK at *;go_enter Tryz.func393,Tryz.ntmps393
    go_wp2_with fail
    go_at_call 170;refine hck.mono ?_;rintro e w1 ⟨rfl,hc⟩;have hc0:ah w w1 []:=((ah.refl w []).alloc _).trans hc (by simp);have dL:=hide (HP.out.aj hc0 (by simp));have hlv:=mQ dL.out;have HC:=hide hc0;clear hc hc0 hck;go_wp2_with (first | (go_at_call 169; refine hlv.mono ?_; rintro e w1 ⟨rfl,rfl⟩) | (go_at_call 395; refine(hgo _).mono ?_; rintro e w1 ⟨rfl,rfl⟩));go_ret;exact⟨rfl,HC.out.more (by simp),_,Sub.refl _ _,t,m,cv,uv,n,dL.out,rfl,hnx.out⟩
theorem wC(d:Int):jA d=true↔0<=d/\d<=31:=by unfold jA; simp
theorem U8{d a n:Int}(h:jA d=true)(ha:jA a=true)(h1:-32768<=n)(h2:n<=32767):chk 31 d a 0 n=0:=by
 rw [lS];rw [wC] at h ha;unfold Fits jy;simp;omega
theorem Zx{d a n:Int}(h:jA d=true)(ha:jA a=true)(h1:0<=n)(h2:n<=65535):chk 32 d a 0 n=0:=by
 rw [lS];rw [wC] at h ha;unfold Fits jy;simp;omega
theorem ami{d n:Int}(h:jA d=true)(h1:0<=n)(h2:n<=65535):chk 33 d 0 0 n=0:=by
 rw [lS];rw [wC] at h;unfold Fits jy;simp;omega
theorem amj{d a:Int}(h:jA d=true)(ha:jA a=true):chk 38 d a 0 0=0:=by
 rw [lS];rw [wC] at h ha;unfold Fits jy;simp;omega
theorem yK.mk2 {w w1 w2:World} {e:Ending} {b:Nat} {F F1:List Nat} {bm:BM} {r:Int} (h:ah w w1 F) (hs:Sub F1 F w) (h2:yK (r,bm) b F1 w1 e w2):yK (r,bm) b F w e w2:=by
 obtain⟨rfl,hc,F2,hs2,hp⟩:=h2;refine⟨rfl,h.trans hc (fun k hk=>hs k hk),F2,fun k hk=>?_,hp⟩;rcases hs2 k hk with h3 | h3
 . exact hs k h3
 . exact .inr (Nat.le_trans h.size h3)
theorem nH{w:World}{b:Nat}{bm:BM}{F:List Nat}(h:PB w b bm F)(i:aW)(hl:bm.code.length<=1000000)(h0:jV i=0) :
 Calls Tryz.prog 105 #[.pointer (some ⟨b,0,none⟩),bD i] w (yK (0,{ bm with code:=bm.code++[i] }) b F w):=by
 have:=QU h i hl;rw [Zw h0] at this;exact this
theorem PB.live{w:World}{b:Nat}{bm:BM}{F:List Nat}(h:PB w b bm F):Calls Tryz.prog 169 #[.pointer (some ⟨b,0,none⟩)] w fun e w'=>e=.returned (.bool true)/\w=w':=by
 obtain⟨t,m,cv,uv,n,hp,_⟩:=h;exact mQ hp
theorem QV {w:World} {b:Nat} {bm:BM} {F:List Nat} (h:PB w b bm F) (d n:Int) (hl:bm.code.length<=900000) (hn1:-2147483648<=n) (hn2:n<=2147483647) :
 Calls Tryz.prog 392 #[.pointer (some ⟨b,0,none⟩),.int .i64 d,.int .i32 n] w (yK (Lm bm d n) b F w):=by
 have hlv:=h.live;have hrg:=fun W=>xH d W;have HP:=hide h
 cases hr:jA d with
 | false =>
  have e:Lm bm d n=(6,bm):=by unfold Lm; rw [if_pos hr]
  rw [e];rw [hr] at hrg;clear h hr e;go_enter Tryz.func392,Tryz.ntmps392
  go_wp2_with (first | (go_at_call 169; refine hlv.mono ?_; rintro e w1 ⟨rfl,rfl⟩) | (go_at_call 390; refine(hrg _).mono ?_; rintro e w1 ⟨rfl,rfl⟩));go_ret;exact⟨rfl,ah.refl _ _,F,Sub.refl _ _,HP.out⟩
 | true =>
  have e:Lm bm d n=(0,{ bm with code:=bm.code++wo d n }):=by unfold Lm; rw [if_neg (by rw [hr]; decide)]
  rw [e];by_cases hin:-32768<=n/\n<=32767
  . have e2:wo d n=[⟨31,d,0,0,n⟩]:=by unfold wo; rw [if_pos hin]
    rw [e2];obtain⟨h1,h2⟩:=hin;have hi:=nH h ⟨31,d,0,0,n⟩ (by omega) (show chk 31 d 0 0 n=0 from U8 hr (by decide) h1 h2);rw [hr] at hrg;unfold bD at hi;clear h hr e e2;go_enter Tryz.func392,Tryz.ntmps392
    go_wp2_with (first | (go_at_call 169; refine hlv.mono ?_; rintro e w1 ⟨rfl,rfl⟩) | (go_at_call 390; refine(hrg _).mono ?_; rintro e w1 ⟨rfl,rfl⟩));go_at_call 105;refine hi.mono ?_;rintro e w1 ⟨rfl,hc,F',hs,hp⟩;go_wp2;go_ret;exact⟨rfl,hc,F',hs,hp⟩
  . have e2:wo d n=[⟨33,d,0,0,n%4294967296 / 65536⟩,⟨32,d,d,0,n%65536⟩]:=by unfold wo; rw [if_neg hin]
    rw [e2]
    have hx:(decide (-32768<=n)&&decide (n<=32767))=false:=by
     cases hb:(decide (-32768<=n)&&decide (n<=32767)) with
     | false=>rfl
     | true=>simp at hb; exact absurd hb hin
    have hi:=nH h ⟨33,d,0,0,n%4294967296 / 65536⟩ (by omega) (show chk 33 d 0 0 (n%4294967296 / 65536)=0 from ami hr (by omega) (by omega));have HR:=hide hr;rw [hr] at hrg;unfold bD at hi;clear h hr e e2;by_cases hlo:-32768<=n
    . have hn3:32767<n:=by omega
      have hi:Calls Tryz.prog 105 #[.pointer (some ⟨b,0,none⟩),.agg #[.int .i64 33,.int .i64 d,.int .i64 0,.int .i64 0,.int .i64 (n / 65536)]] w (yK (0,{ bm with code:=bm.code++[⟨33,d,0,0,n%4294967296 / 65536⟩] }) b F w):=by
       have en:n%4294967296=n:=by omega
       rw [en] at hi ⊢;exact hi
      go_enter Tryz.func392,Tryz.ntmps392
      go_wp2_with (first | (go_at_call 169; refine hlv.mono ?_; rintro e w1 ⟨rfl,rfl⟩) | (go_at_call 390; refine(hrg _).mono ?_; rintro e w1 ⟨rfl,rfl⟩));go_at_call 105;refine hi.mono ?_;rintro e w1 ⟨rfl,hc,F1,hs1,hp1⟩;have hi2:=nH hp1 ⟨32,d,d,0,n%65536⟩ (by show(bm.code++[_]).length<=_; rw [List.length_append]; simp; omega) (show chk 32 d d 0 (n%65536)=0 from Zx HR.out HR.out (by omega) (by omega));have HC:=hide hc;have fJ:=hide hs1;unfold bD at hi2
      have eu:wrap64 (IntKind.u16.wrap n)=n%65536:=by
       have e1:IntKind.u16.wrap n=n%65536:=by simp only [IntKind.wrap,IntKind.bits,IntKind.signed]; simp
       rw [e1];unfold wrap64;omega
      have hi2:Calls Tryz.prog 105 #[.pointer (some ⟨b,0,none⟩),.agg #[.int .i64 32,.int .i64 d,.int .i64 d,.int .i64 0,.int .i64 (wrap64 (IntKind.u16.wrap n))]] w1 (yK (0,{ bm with code:=bm.code++[(⟨33,d,0,0,n%4294967296 / 65536⟩:aW)]++[⟨32,d,d,0,n%65536⟩] }) b F1 w1):=by
       rw [eu];exact hi2
      clear hc hs1 hp1 hi eu;go_wp2_with fail
      go_at_call 105;refine hi2.mono ?_;intro e w2 DN;have hG:=yK.mk2 HC.out fJ.out DN;have e3:bm.code++[(⟨33,d,0,0,n%4294967296 / 65536⟩:aW)]++[⟨32,d,d,0,n%65536⟩]=bm.code++[⟨33,d,0,0,n%4294967296 / 65536⟩,⟨32,d,d,0,n%65536⟩]:=by simp
      simp only [e3] at hG;obtain⟨rfl,hc2,F2,hs2,hp2⟩:=hG;clear DN hi2 e3;go_wp2;go_ret;exact⟨rfl,hc2,F2,hs2,hp2⟩
    . have hn3:n < -32768:=by omega
      have hi:Calls Tryz.prog 105 #[.pointer (some ⟨b,0,none⟩),.agg #[.int .i64 33,.int .i64 d,.int .i64 0,.int .i64 0,.int .i64 (n%4294967296 / 65536)]] w (yK (0,{ bm with code:=bm.code++[⟨33,d,0,0,n%4294967296 / 65536⟩] }) b F w):=by
       exact hi
      go_enter Tryz.func392,Tryz.ntmps392
      go_wp2_with (first | (go_at_call 169; refine hlv.mono ?_; rintro e w1 ⟨rfl,rfl⟩) | (go_at_call 390; refine(hrg _).mono ?_; rintro e w1 ⟨rfl,rfl⟩));go_at_call 105;refine hi.mono ?_;rintro e w1 ⟨rfl,hc,F1,hs1,hp1⟩;have hi2:=nH hp1 ⟨32,d,d,0,n%65536⟩ (by show(bm.code++[_]).length<=_; rw [List.length_append]; simp; omega) (show chk 32 d d 0 (n%65536)=0 from Zx HR.out HR.out (by omega) (by omega));have HC:=hide hc;have fJ:=hide hs1;unfold bD at hi2
      have eu:wrap64 (IntKind.u16.wrap n)=n%65536:=by
       have e1:IntKind.u16.wrap n=n%65536:=by simp only [IntKind.wrap,IntKind.bits,IntKind.signed]; simp
       rw [e1];unfold wrap64;omega
      have hi2:Calls Tryz.prog 105 #[.pointer (some ⟨b,0,none⟩),.agg #[.int .i64 32,.int .i64 d,.int .i64 d,.int .i64 0,.int .i64 (wrap64 (IntKind.u16.wrap n))]] w1 (yK (0,{ bm with code:=bm.code++[(⟨33,d,0,0,n%4294967296 / 65536⟩:aW)]++[⟨32,d,d,0,n%65536⟩] }) b F1 w1):=by
       rw [eu];exact hi2
      clear hc hs1 hp1 hi eu;go_wp2_with fail
      go_at_call 105;refine hi2.mono ?_;intro e w2 DN;have hG:=yK.mk2 HC.out fJ.out DN;have e3:bm.code++[(⟨33,d,0,0,n%4294967296 / 65536⟩:aW)]++[⟨32,d,d,0,n%65536⟩]=bm.code++[⟨33,d,0,0,n%4294967296 / 65536⟩,⟨32,d,d,0,n%65536⟩]:=by simp
      simp only [e3] at hG;obtain⟨rfl,hc2,F2,hs2,hp2⟩:=hG;clear DN hi2 e3;go_wp2;go_ret;exact⟨rfl,hc2,F2,hs2,hp2⟩
theorem He(c l n:Int):yZ c l n=true↔(c≠0/\l≠0/\c≠l/\jA c=true/\jA l=true/\1<=n/\n<=32767):=by
 unfold yZ;simp only [Bool.and_eq_true,decide_eq_true_eq];constructor<;>(intro h; simp_all)
theorem ah7(k:Nat)(caps:Array Value)(W:World):(binOp .neq 1 (.func (.func k) #[] caps) .nilFunc).run Tryz.prog W=.ok (.bool true) W:=by kernel_rfl
def abq (Q:World->BM->List Nat->Prop) (bm:BM) (b:Nat) (c l n:Int) (s:Nm) (F:List Nat) (w:World) (e:Ending) (w':World):Prop :=
 ((rH bm c l n s).1=0->∃ w2 bm2 F2,Q w2 bm2 F2/\yK (0,Nr bm2 c l s) b F2 w2 e w')/\((rH bm c l n s).1≠0->yK ((rH bm c l n s).1,bm) b F w e w')
theorem aew{c l n:Int}(h:yZ c l n=false) :
 c=0\/c≠0/\l=0\/c≠0/\l≠0/\c=l\/c≠0/\l≠0/\c≠l/\jA c=false\/c≠0/\l≠0/\c≠l/\jA c=true/\jA l=false\/c≠0/\l≠0/\c≠l/\jA c=true/\jA l=true/\n<1\/c≠0/\l≠0/\c≠l/\jA c=true/\jA l=true/\1<=n/\32767<n:=by
 have h2:¬ (c≠0/\l≠0/\c≠l/\jA c=true/\jA l=true/\1<=n/\n<=32767):=fun hh=>by rw [(He c l n).2 hh] at h; exact absurd h (by decide)
 cases h3:jA c<;>cases h4:jA l<;>(simp [h3,h4] at h2 ⊢; omega)
theorem ah8{w:World}{b:Nat}{bm:BM}{F:List Nat}(h:PB w b bm F)(c l n:Int)(s:Nm)(f:Value)(hb:yZ c l n=false) :
 Calls Tryz.prog 388 #[.pointer (some ⟨b,0,none⟩),.int .i64 c,.int .i64 l,.int .i64 n,bH s,f] w fun e w'=>e=.returned (.int .i64 6)/\w=w':=by
 have hlv:=h.live;have hrc:=fun W=>xH c W;have hrl:=fun W=>xH l W;clear h;have hw:=aew hb;clear hb;unfold bH;rcases hw with h1 | ⟨h1,h2⟩ | ⟨h1,h2,h3⟩ | ⟨h1,h2,h3,h4⟩ | ⟨h1,h2,h3,h4,h5⟩ | ⟨h1,h2,h3,h4,h5,h6⟩ | ⟨h1,h2,h3,h4,h5,h6,h7⟩
 . have x1:(c==0)=true:=beq_iff_eq.2 h1
   clear h1;go_enter Tryz.func388,Tryz.ntmps388
   go_wp2_with (go_at_call 169; refine hlv.mono ?_; rintro e w1 ⟨rfl,rfl⟩);go_ret;exact⟨rfl,rfl⟩
 . have x1:(c==0)=false:=beq_eq_false_iff_ne.2 h1
   have x2:(l==0)=true:=beq_iff_eq.2 h2;clear h1 h2;go_enter Tryz.func388,Tryz.ntmps388
   go_wp2_with (go_at_call 169; refine hlv.mono ?_; rintro e w1 ⟨rfl,rfl⟩);go_ret;exact⟨rfl,rfl⟩
 . have x1:(c==0)=false:=beq_eq_false_iff_ne.2 h1
   have x2:(l==0)=false:=beq_eq_false_iff_ne.2 h2;have x3:(c==l)=true:=beq_iff_eq.2 h3;clear h1 h2 h3;go_enter Tryz.func388,Tryz.ntmps388
   go_wp2_with (go_at_call 169; refine hlv.mono ?_; rintro e w1 ⟨rfl,rfl⟩);go_ret;exact⟨rfl,rfl⟩
 . have x1:(c==0)=false:=beq_eq_false_iff_ne.2 h1
   have x2:(l==0)=false:=beq_eq_false_iff_ne.2 h2;have x3:(c==l)=false:=beq_eq_false_iff_ne.2 h3;rw [h4] at hrc;clear h1 h2 h3 h4;go_enter Tryz.func388,Tryz.ntmps388
   go_wp2_with (first | (go_at_call 169; refine hlv.mono ?_; rintro e w1 ⟨rfl,rfl⟩) | (go_at_call 390; refine(hrc _).mono ?_; rintro e w1 ⟨rfl,rfl⟩));go_ret;exact⟨rfl,rfl⟩
 . have x1:(c==0)=false:=beq_eq_false_iff_ne.2 h1
   have x2:(l==0)=false:=beq_eq_false_iff_ne.2 h2;have x3:(c==l)=false:=beq_eq_false_iff_ne.2 h3;rw [h4] at hrc;rw [h5] at hrl;clear h1 h2 h3 h4 h5;go_enter Tryz.func388,Tryz.ntmps388
   go_wp2_with (go_at_call 169; refine hlv.mono ?_; rintro e w1 ⟨rfl,rfl⟩);go_at_call 390;refine(hrc _).mono ?_;rintro e w1 ⟨rfl,rfl⟩;go_wp2_with fail
   go_at_call 390;refine(hrl _).mono ?_;rintro e w1 ⟨rfl,rfl⟩;go_wp2_with fail
   go_ret;exact⟨rfl,rfl⟩
 . have x1:(c==0)=false:=beq_eq_false_iff_ne.2 h1
   have x2:(l==0)=false:=beq_eq_false_iff_ne.2 h2;have x3:(c==l)=false:=beq_eq_false_iff_ne.2 h3;have x6:decide (n<1)=true:=decide_eq_true h6;rw [h4] at hrc;rw [h5] at hrl;clear h1 h2 h3 h4 h5 h6;go_enter Tryz.func388,Tryz.ntmps388
   go_wp2_with (go_at_call 169; refine hlv.mono ?_; rintro e w1 ⟨rfl,rfl⟩);go_at_call 390;refine(hrc _).mono ?_;rintro e w1 ⟨rfl,rfl⟩;go_wp2_with fail
   go_at_call 390;refine(hrl _).mono ?_;rintro e w1 ⟨rfl,rfl⟩;go_wp2_with fail
   go_ret;exact⟨rfl,rfl⟩
 . have x1:(c==0)=false:=beq_eq_false_iff_ne.2 h1
   have x2:(l==0)=false:=beq_eq_false_iff_ne.2 h2;have x3:(c==l)=false:=beq_eq_false_iff_ne.2 h3;have x6:decide (n<1)=false:=decide_eq_false (by omega);have x7:decide (32767<n)=true:=decide_eq_true h7;rw [h4] at hrc;rw [h5] at hrl;clear h1 h2 h3 h4 h5 h6 h7;go_enter Tryz.func388,Tryz.ntmps388
   go_wp2_with (go_at_call 169; refine hlv.mono ?_; rintro e w1 ⟨rfl,rfl⟩);go_at_call 390;refine(hrc _).mono ?_;rintro e w1 ⟨rfl,rfl⟩;go_wp2_with fail
   go_at_call 390;refine(hrl _).mono ?_;rintro e w1 ⟨rfl,rfl⟩;go_wp2_with fail
   go_ret;exact⟨rfl,rfl⟩
theorem PB.define{w:World}{b:Nat}{bm:BM}{t m n:Nat}{cv uv:Value}(hp:Gj w b t m cv uv n bm)(hn:n<=bm.defs.length)(s:Nm)(p:Int)(hs:s.length<=1000000)(hd:bm.defs.length<=1000000)(hw:(Lit.int .i64 p).wf=true) :
 Calls Tryz.prog 391 #[.pointer (some ⟨t,0,none⟩),bH s,.int .i64 p] w (yK (pO bm s p) b (gq b t m cv uv) w):=by
 refine(U2 hp.tab s p hs (by omega) hw).mono ?_;rintro e w1 ⟨rfl,hc,n',hn',ht⟩;obtain⟨q1,q2,q3,q4,q5,q6⟩:=hp.ne;rw [amf];refine⟨rfl,hc.more (fun k hk=>.inl (by simp only [List.mem_singleton] at hk; subst hk; simp [gq,pY])),_,Sub.refl _ _,t,m,cv,uv,n',⟨hp.blk.aj hc (by simpa using q2),ht,aH hp.row hc (fun g hg=>by simp only [List.mem_singleton]; rintro rfl; exact q5 hg)⟩,rfl,?_⟩;show n'<=(Ag bm.defs s p).length;omega
def DoP(k:Nat)(caps:Array Value)(Q:World->BM->List Nat->Prop)(r:Int×BM)(b:Nat)(F:List Nat)(w:World):Prop :=
 r.1=0->∀ w1 F1,ah w w1 F->Sub F1 F w->PB w1 b r.2 F1->Calls Tryz.prog k caps w1 fun e w2=>(∃ v,e=.returned v)/\∃ bm2 F2,PB w2 b bm2 F2/\bm2.code.length<=800000/\bm2.uses.length<=1000000/\Q w2 bm2 F2
theorem aex{bm:BM}{c l n:Int}{s:Nm}(h:yZ c l n=false):rH bm c l n s=(6,bm):=by unfold rH; rw [if_pos h]
theorem aey{bm:BM}{c l n:Int}{s:Nm}(h:yZ c l n=true):rH bm c l n s=((pO bm s (bm.code.length+2)).1,if(pO bm s (bm.code.length+2)).1=0 then { (pO bm s (bm.code.length+2)).2 with code:=bm.code++[⟨31,c,0,0,0⟩,⟨31,l,0,0,n⟩] } else bm):=by
 unfold rH pO;rw [if_neg (by rw [h]; decide)]
 cases h1:qJ s with
 | false=>simp
 | true =>
  cases h2:(gJ bm.defs s).isSome with
  | true=>simp
  | false=>simp
theorem ah9{bm:BM}{s:Nm}{p:Int}(h:(pO bm s p).1≠0):(pO bm s p).2=bm:=by
 unfold pO at h ⊢;split
 . rfl
 . split
   . rfl
   . rename_i h1 h2
     rw [if_neg h1,if_neg h2] at h;exact absurd rfl h
theorem aez{bm:BM}{s:Nm}{p:Int}:(pO bm s p).2.code=bm.code:=by
 unfold pO;split
 . rfl
 . split<;>rfl
theorem aeA{bm:BM}{s:Nm}{p:Int}(h:(pO bm s p).1=0):qJ s=true:=by
 cases h1:qJ s with
 | true=>rfl
 | false=>unfold pO at h; rw [if_pos h1] at h; simp at h
theorem Zy{bm:BM}{c n:Int}(hc:jA c=true)(h1:-32768<=n)(h2:n<=32767):Lm bm c n=(0,{ bm with code:=bm.code++[⟨31,c,0,0,n⟩] }):=by
 unfold Lm wo;rw [if_neg (by rw [hc]; decide),if_pos ⟨h1,h2⟩]
theorem abr {w:World} {b:Nat} {bm:BM} {F:List Nat} (h:PB w b bm F) (c l n:Int) (s:Nm) (k:Nat) (caps:Array Value) (Q:World->BM->List Nat->Prop)
 (hs:s.length<=1000000) (hl:bm.code.length<=800000) (hd:bm.defs.length<=1000000) (hcl:∀ W:World,(callFunc k caps).run Tryz.prog W=.ok (.enter k caps) W) (hdo:DoP k caps Q (rH bm c l n s) b F w) :
 Calls Tryz.prog 388 #[.pointer (some ⟨b,0,none⟩),.int .i64 c,.int .i64 l,.int .i64 n,bH s,.func (.func k) #[] caps] w (abq Q bm b c l n s F w):=by
 cases hb:yZ c l n with
 | false =>
  refine(ah8 h c l n s _ hb).mono ?_;rintro e w1 ⟨rfl,rfl⟩;unfold abq;rw [aex hb];exact⟨fun h0=>absurd (show(6:Int)=0 from h0) (by decide),fun _=>⟨rfl,ah.refl _ _,F,Sub.refl _ _,h⟩⟩
 | true =>
  obtain⟨h1,h2,h3,h4,h5,h6,h7⟩:=(He c l n).1 hb;have ho:=@aey bm c l n s hb;have HO:=hide ho;have kM:=hide hdo;have HP:=hide h;obtain⟨t,m,cv,uv,z,hp,hF,hz⟩:=h;have hlv:=mQ hp;have hrc:=fun W=>xH c W;have hrl:=fun W=>xH l W;rw [h4] at hrc;rw [h5] at hrl;have x1:(c==0)=false:=beq_eq_false_iff_ne.2 h1;have x2:(l==0)=false:=beq_eq_false_iff_ne.2 h2;have x3:(c==l)=false:=beq_eq_false_iff_ne.2 h3;have x6:decide (n<1)=false:=decide_eq_false (by omega);have x7:decide (32767<n)=false:=decide_eq_false (by omega);have hw2:wrap64 ((bm.code.length:Int)+2)=(bm.code.length:Int)+2:=by unfold wrap64; omega
  have hdf:=PB.define (hp.aj (ah.refl w []).drew (by simp)) hz s (bm.code.length+2) hs hd (by simp [Lit.wf,IntKind.min,IntKind.max,IntKind.signed,IntKind.bits]; omega);rw [<- hF] at hdf;have c0:=hp.blk.cell' (i:=0) rfl;have c1:=hp.blk.cell' (i:=1) rfl;obtain⟨A,cc,rfl⟩:=bK hp.row;have H4:=hide h4;have H5:=hide h5;clear ho hdo hp hb h1 h2 h3 h4 h5 hF hz hw2;unfold bH at hdf ⊢;go_enter Tryz.func388,Tryz.ntmps388
  go_wp2_with (go_at_call 169; refine hlv.mono ?_; rintro e w1 ⟨rfl,rfl⟩);go_at_call 390;refine(hrc _).mono ?_;rintro e w1 ⟨rfl,rfl⟩;go_wp2_with fail
  go_at_call 390;refine(hrl _).mono ?_;rintro e w1 ⟨rfl,rfl⟩;go_wp2_with fail
  go_still_tail 11,(by kernel_rfl)
  change wpList _ _ _ _ _ w.drew;go_wp2_with fail
  go_at_call 391;refine hdf.mono ?_;rintro e w1 ⟨rfl,hc1,F1,hs1,hp1⟩;have bZ:Hid (ah w w1 F):=hide (((ah.refl w F).drew).trans hc1 (fun k hk=>.inl hk));have fJ:Hid (Sub F1 F w):=hide hs1;have dL:=hide hp1;clear hc1 hs1 hp1 hdf;by_cases hde:(pO bm s (bm.code.length+2)).1=0
  . have HN:=hide (aeA hde)
    have HE:=hide hde;have HCD:=hide (@aez bm s (bm.code.length+2));rw [hde];clear hde;generalize hD:(pO bm s (bm.code.length+2)).2=bm0 at *;have atx:=hide (Zy (bm:=bm0) (c:=c) (n:=0) H4.out (by decide) (by decide));have abt:=QV dL.out c 0 (by have:=HCD.out; rw [this]; omega) (by decide) (by decide);rw [atx.out] at abt;have HX1:=hide abt;clear abt;go_wp2_with fail
    go_at_call 392;refine HX1.out.mono ?_;rintro e w2 ⟨rfl,hc2,F2,hs2,hp2⟩;have HC2:=hide hc2;have HS2:=hide hs2;have HP2:=hide hp2;have aty:=hide (Zy (bm:={ bm0 with code:=bm0.code++[⟨31,c,0,0,0⟩] }) (c:=l) (n:=n) H5.out (by omega) (by omega));have abu:=QV hp2 l n (by show(bm0.code++_).length<=_; have:=HCD.out; rw [List.length_append,this]; simp; omega) (by omega) (by omega);rw [aty.out] at abu;have HX2:=hide abu;clear hc2 hs2 hp2 abu;go_wp2_with fail
    go_at_call 392;refine HX2.out.mono ?_;rintro e w3 ⟨rfl,hc3,F3,hs3,hp3⟩;have ho3:=HO.out;rw [HE.out,if_pos rfl] at ho3;have HCd:=HCD.out;simp only [HCd,List.append_assoc] at hp3;have hC3:ah w w3 F:=bZ.out.trans (HC2.out.trans hc3 (fun k hk=>HS2.out k hk)) (fun k hk=>fJ.out k hk)
    have hS3:Sub F3 F w:=fun k hk=>by
     have q1:=bZ.out.size;have q2:=HC2.out.size;rcases hs3 k hk with h | h
     . rcases HS2.out k h with h | h
       . exact fJ.out k h
       . exact .inr (by omega)
     . exact .inr (by omega)
    have hq:(rH bm c l n s).1=0:=by rw [ho3]
    have aoQ:=kM.out hq w3 F3 hC3 hS3 (by rw [ho3]; exact hp3);have HDQ:=hide aoQ;have HQ:=hide hq;clear hc3 hs3 hp3 ho3 HCd hC3 hS3 hq aoQ;have hnf:=fun W=>ah7 k caps W;go_wp2_with fail
    refine HDQ.out.mono ?_;rintro e w4 ⟨⟨v,rfl⟩,bm2,F4,jW,hl4,hu4,hQ4⟩;have Zz:=hide hQ4;have Gl:=hide jW;have hi5:=nH jW ⟨31,c,c,0,1⟩ (by omega) (show chk 31 c c 0 1=0 from U8 H4.out H4.out (by decide) (by decide));unfold bD at hi5;have HI5:=hide hi5;clear hi5 jW hQ4;go_wp2_with fail
    go_at_call 105;refine HI5.out.mono ?_;rintro e w5 ⟨rfl,hc5,F5,hs5,ZA⟩;have hg6:=ah6 ZA 38 c l s hs (by show(bm2.code++_).length<=_; rw [List.length_append]; simp; omega) hu4;rw [aeu (bm:={ bm2 with code:=bm2.code++[⟨31,c,c,0,1⟩] }) (s:=s) (by decide) (amj H4.out H5.out) HN.out] at hg6;have HG6:=hide hg6;have jD:=hide hc5;have vM:=hide hs5;unfold bH at HG6;clear hc5 hs5 ZA hg6;go_wp2_with fail
    go_at_call 393;refine HG6.out.mono ?_;intro e w6 DN;have hG:=yK.mk2 jD.out vM.out DN;obtain⟨rfl,hc6,F6,hs6,QW⟩:=hG;have qN:=hide hc6;have HS6:=hide hs6;have ZB:=hide QW;clear DN hc6 hs6 QW;go_wp2;go_ret;refine⟨fun _=>⟨w4,bm2,F4,Zz.out,rfl,qN.out,F6,HS6.out,?_⟩,fun h=>absurd HQ.out h⟩;have hp:=ZB.out
    simpa [Nr] using hp
  . have hb2:=ah9 hde
    rw [hb2] at dL;have ho3:=HO.out;rw [if_neg hde] at ho3;have J4:=hide ho3;have HDE:=hide hde;have hx:((pO bm s (bm.code.length+2)).1==0)=false:=beq_eq_false_iff_ne.2 hde;clear hb2 ho3 HO kM;generalize (pO bm s (bm.code.length+2)).1=e0 at *;clear hde;go_wp2;go_ret;unfold abq;rw [J4.out];exact⟨fun h=>absurd h HDE.out,fun _=>⟨rfl,bZ.out,F1,fJ.out,dL.out⟩⟩
theorem abv(w:World):Calls Tryz.prog 139 #[] w fun e w'=>e=.returned (.pointer (some ⟨w.heap.size+1,0,none⟩))/\w'=(w.alloc (.map #[] 0)).alloc (.cells #[.map (some w.heap.size),.slice none 0 0] 273):=by
 have hmm:=@run_makeMap Tryz.prog;go_enter Tryz.func139,Tryz.ntmps139
 go_wp2;go_ret;exact⟨rfl,rfl⟩
theorem aeC(w:World):Calls Tryz.prog 81 #[] w fun e w'=>∃ b F,e=.returned (.pointer (some ⟨b,0,none⟩))/\ah w w' []/\PB w' b ⟨[],[],[]⟩ F/\∀ k∈F,w.heap.size<=k:=by
 have hl:=abv w;go_enter Tryz.func81,Tryz.ntmps81
 go_wp2_with fail
 go_at_call 139;refine hl.mono ?_;rintro e w1 ⟨rfl,hw⟩
 have hM:lK w1 9 w.heap.size 0 (Af []):=by
  rw [hw];have h:=(lK.made w 9).alloc (.cells #[.map (some w.heap.size),.slice none 0 0] 273);have e:(fun _=>none:Lit->Option Int)=Af []:=by funext k; cases k<;>rfl
  rw [e] at h;exact h
 have hT:aC w1 (w.heap.size+1) 273 [.map (some w.heap.size),.slice none 0 0]:=by
  rw [hw];have h:=aC.new (w.alloc (.map #[] 0)) 273 [.map (some w.heap.size),.slice none 0 0];rw [size_alloc] at h;exact h
 have hC:ah w w1 []:=by rw [hw]; exact((ah.refl w []).alloc _).alloc _
 have hz:w1.heap.size=w.heap.size+2:=by rw [hw]; simp
 have HM:=hide hM;have HT:=hide hT;have HC:=hide hC;have HZ:=hide hz;clear hw hM hT hC hl hz;go_wp2;go_ret;have hB:=aC.new w1 224 [.pointer (some ⟨w.heap.size+1,0,none⟩),.slice none 0 0];refine⟨_,_,rfl,HC.out.alloc _,⟨w.heap.size+1,w.heap.size,.slice none 0 0,.slice none 0 0,0,⟨hB,⟨HT.out.alloc _,HM.out.alloc _,World.ownsRow_nil _ _ _ _⟩,World.ownsRow_nil _ _ _ _⟩,rfl,Nat.le_refl _⟩,?_⟩;intro k hk;have:=HZ.out;simp [gq,pY,Value.ownBlock] at hk;omega
def Fine (bm:BM):Prop:=(∀ p∈bm.defs,0<=p.2/\p.2<=1000000)/\(∀ p∈bm.uses,(0<=p.2/\p.2<=1000000)/\p.1.length<=1000000)
theorem aeE{l:List (Nm×Int)}{s:Nm}{q:Int}(h:gJ l s=some q):∃ p∈l,p.2=q:=by
 unfold gJ at h
 cases hf:l.find? (fun p=>p.1==s) with
 | none=>rw [hf] at h; simp at h
 | some p=>rw [hf] at h; simp at h; exact⟨p,List.mem_of_find?_eq_some hf,h⟩
theorem QX{defs:List (Nm×Int)}(hd:∀ p∈defs,0<=p.2/\p.2<=1000000):∀(uses:List (Nm×Int)) (fx:List (Int×Int)),(∀ p∈uses,0<=p.2/\p.2<=1000000)->mP defs uses=.ok fx->fx.length=uses.length/\∀ x∈fx,(0<=x.1/\x.1<=1000000)/\0<=x.2/\x.2<=1000000
 | [],fx,_,h=>by
  simp only [mP,Except.ok.injEq] at h;subst h;exact⟨rfl,by simp⟩
 | (s,p)::r,fx,hu,h=>by
  cases hf:gJ defs s with
  | none=>rw [QS hf] at h; cases h
  | some q =>
   rw [QT hf] at h
   cases hr:mP defs r with
   | error e=>rw [hr] at h; cases h
   | ok l =>
    rw [hr] at h;simp only [Except.ok.injEq] at h;subst h;obtain⟨h1,h2⟩:=QX hd r l (fun p hp=>hu p (List.mem_cons_of_mem _ hp)) hr;refine⟨by simp [h1],fun x hx=>?_⟩;rcases List.mem_cons.1 hx with rfl | hx
    . obtain⟨d,hd1,hd2⟩:=aeE hf
      have:=hd d hd1;rw [hd2] at this;exact⟨hu (s,p) (List.mem_cons_self ..),this⟩
    . exact h2 x hx
def wE(l:List (Int×Int)):Lit->Option Int
 | .int .i64 k=>zh l k
 | _=>none
theorem abx(l:List (Int×Int))(p:Int×Int)(k:Int):zh (l++[p]) k=if p.1=k then some p.2 else zh l k:=by
 unfold zh;rw [List.foldl_append];rfl
open Classical in
theorem ah_(l:List (Int×Int))(p:Int×Int):Lr (wE l) (.int .i64 p.1) p.2=wE (l++[p]):=by
 funext k;unfold Lr
 cases k with
 | int q k =>
  cases q with
  | i64 =>
   show(if Lit.int .i64 k=Lit.int .i64 p.1 then some p.2 else zh l k)=zh (l++[p]) k;rw [abx];by_cases e:p.1=k
   . rw [if_pos e,if_pos (by rw [e])]
   . rw [if_neg e,if_neg (by simpa using fun h=>e h.symm)]
  | _=>rw [if_neg (by simp)]; rfl
 | _=>rw [if_neg (by simp)]; rfl
theorem kN:Keyed Tryz.prog 3:=int_keyed Tryz.underlying3
theorem wf64{k:Int}(h0:0<=k)(h1:k<=1000000):(Lit.int .i64 k).wf=true:=by simp [Lit.wf,IntKind.min,IntKind.max,IntKind.signed,IntKind.bits]; omega
theorem wF{k:Int}(h0:0<=k)(h1:k<=1000000):keyOf Tryz.prog 3 (.int .i64 k)=some (.int .i64 k):=keyOf_int_mk Tryz.underlying3 (wf64 h0 h1)
def jH (l:List Int):List Value:=l.map (Value.int .u32)
theorem QY(l:List Int)(x:Int):jH (l++[x])=jH l++[.int .u32 x]:=by simp [jH]
theorem aia:(Tryz.prog.info? 124).map (fun i=>(i.zero,i.size,i.bytes))=some (some (.int .u32 0),1,4):=by kernel_rfl
theorem ZC(i:aW)(w:World):Calls Tryz.prog 112 #[bD i] w fun e w'=>(∃ z,e=.returned (.tuple #[.int .u32 (encI i),.int .i64 z]))/\ah w w' []:=by
 obtain⟨op,d,a,b,n⟩:=i;by_cases h:chk op d a b n=0
 . refine(C_ op d a b n w h).mono ?_
   rintro e w' ⟨rfl,hc⟩;have he:encI ⟨op,d,a,b,n⟩=pK op d a b n 4:=by unfold encI jV; rw [if_pos h]
   rw [he];exact⟨⟨_,rfl⟩,hc⟩
 . refine(abw op d a b n w h).mono ?_
   rintro e w' ⟨rfl,hc⟩;have he:encI ⟨op,d,a,b,n⟩=0:=by unfold encI jV; rw [if_neg h]
   rw [he];exact⟨⟨_,rfl⟩,hc⟩
theorem ZE:∀(l:List aW) (k:Nat) (x:aW),l[k]?=some x->(codeCells l)[k*5]?=some (.int .i64 x.op)/\(codeCells l)[k*5+1]?=some (.int .i64 x.d)/\(codeCells l)[k*5+2]?=some (.int .i64 x.a)/\(codeCells l)[k*5+3]?=some (.int .i64 x.b)/\(codeCells l)[k*5+4]?=some (.int .i64 x.n)
 | [],k,x,e=>by simp at e
 | y::l,0,x,e=>by simp at e; subst e; exact⟨rfl,rfl,rfl,rfl,rfl⟩
 | y::l,k+1,x,e=>by
  have:=ZE l k x (by simpa using e);have hc:codeCells (y::l)=wB y++codeCells l:=rfl;rw [hc,show(k+1)*5=k*5+5 by omega];exact this
theorem aby{fx:List (Int×Int)}{code:List aW}{k:Nat}{x:aW}(h:code[k]?=some x):(uP fx code).take (k+1)=(uP fx code).take k++[encI (patched fx k x)]:=by
 rw [List.take_add_one];congr 1;unfold uP;rw [List.getElem?_mapIdx,h];rfl
theorem aeF(fx:List (Int×Int))(code:List aW):(uP fx code).length=code.length:=by simp [uP]
def atD(r:List Int×Nm×Int)(w:World)(e:Ending)(w':World):Prop:=ah w w' []/\∃ v,e=.returned (.tuple #[v,bH r.2.1,.int .i64 r.2.2])/\Sl w' v (jH r.1)/\∀ A n c,v=.slice (some A) n c->w.heap.size<=A.block
theorem aib:(fun _=>none:Lit->Option Int)=wE []:=by
 funext k
 cases k with
 | int q k=>cases q<;>rfl
 | _=>rfl
theorem aeG{fx:List (Int×Int)}{k:Nat}{p q:Int}(h:fx[k]?=some (p,q)):Lr (wE (fx.take k)) (.int .i64 p) q=wE (fx.take (k+1)):=by
 rw [List.take_add_one,h];exact ah_ (fx.take k) (p,q)
theorem aic{bm:BM}{s:Nm}(h:mP bm.defs bm.uses=.error s):Lp bm=([],s,10):=by unfold Lp; rw [h]
theorem amk{bm:BM}{fx:List (Int×Int)}(h:mP bm.defs bm.uses=.ok fx)(hl:bm.code.length<=16384):Lp bm=(uP fx bm.code,[],0):=by unfold Lp; rw [h]; simp only []; rw [if_neg (by omega)]
theorem SI {w:World} {b:Nat} {bm:BM} {F:List Nat} (h:PB w b bm F) (hf:Fine bm) (hl:bm.code.length<=16384) (hu:bm.uses.length<=100000) (hE:Ny w) :
 Calls Tryz.prog 106 #[.pointer (some ⟨b,0,none⟩)] w (atD (Lp bm) w):=by
 have hlv:=h.live;obtain⟨t,m,cv,uv,z,hp,rfl,hz⟩:=h;have hres:=SH hp.tab (fun p hp=>(hf.2 p hp).2) (by omega) hE;have HP:=hide hp;have HF:=hide hf;have c0:=hp.blk.cell' (i:=0) rfl;clear hp hf hE hz;go_enter Tryz.func106,Tryz.ntmps106
 go_wp2_with (first | (go_at_call 169; refine hlv.mono ?_; rintro e w1 ⟨rfl,rfl⟩) | (go_at_call 171; refine hres.mono ?_));rintro e w1 ⟨hc,hr⟩;have HC:=hide hc;have dL:=hide (HP.out.aj hc (by simp));clear hres;rcases hr with⟨s,hr,rfl⟩ | ⟨fx,v,hr,rfl,ho⟩
 . have U9:=hide (aic hr)
   clear hc hr c0 hlv;go_wp2;refine bodyPost_ret (results_tmp3 rfl _ _ _) rfl ?_;rw [U9.out];exact⟨HC.out,.slice none 0 0,rfl,⟨none,0,rfl,Nat.le_refl _,fun h0=>absurd h0 (by simp [jH])⟩,fun A n c e=>by cases e⟩
 . have U9:=hide (amk hr hl)
   have abz:=QX HF.out.1 bm.uses fx (fun p hp=>(HF.out.2 p hp).1) hr;have HFX:=hide abz.2;have hfl:fx.length<=100000:=by rw [abz.1]; exact hu
   have c1:=dL.out.blk.cell' (i:=1) rfl;have HO:=hide ho;have HRC:=hide dL.out.row;obtain⟨A,c,hAc,hx⟩:=oH ho;have HX:=hide hx;obtain⟨A2,c2,hA2,hx2⟩:=oH dL.out.row;have HX2:=hide hx2;have hbl:=dL.out.blk.lt;subst hAc;rw [hA2] at c1;have hmm:=@run_makeMap Tryz.prog;clear hc hr c0 hlv ho abz hx hx2 hA2;have hM0:lK (w1.alloc (.map #[] 0)) 3 w1.heap.size 0 (wE []):=by rw [<- aib]; exact lK.made w1 3
   have HM0:=hide hM0;clear hM0;go_wp2;go_loopw [43] (fun i wr=>∃ k:Nat,k<=fx.length/\i=.int .i64 k/\Hid (ah w1 wr [])/\∃ n:Nat,n<=k/\Hid (lK wr 3 w1.heap.size n (wE (fx.take k)))) (fun i _=>fx.length - (intOf i).toNat)
   case atStart=>exact⟨0,Nat.zero_le _,rfl,hide ((ah.refl w1 []).alloc _),0,Nat.le_refl _,by simpa using HM0⟩
   case round =>
    obtain⟨k,hk,rfl,HR,n,hn,HM⟩:=hrel;by_cases hlt:k<fx.length
    . obtain⟨g,rfl,hgl,hgb,hcells⟩:=HX.out (by omega)
      obtain⟨⟨p,q⟩,hsp⟩:∃ x,fx[k]?=some x:=⟨fx[k],by simp [hlt]⟩
      obtain⟨q0,q1⟩:=PK (fun p:Int×Int=>.int .i64 p.1) (fun p=>.int .i64 p.2) fx k (p,q) hsp;have ca:=HR.out.cell (hcells _ _ q0) (by simp);have cb:=HR.out.cell (hcells _ _ q1) (by simp);have hpq:=HFX.out (p,q) (List.mem_of_getElem? hsp);have HST:=hide (aeG hsp);have hky:=wF hpq.1.1 hpq.1.2;have hwq:=wf64 hpq.2.1 hpq.2.2;have hgr:g<wr.heap.size:=by have:=HR.out.size; omega
      clear hcells hsp q0 q1;go_wp2_with (at_mapUpdate; refine JZ rfl _ _ _ 241 rfl 3 kN Tryz.underlying241 w1.heap.size n (wE (fx.take k)) rfl (HM.out.alloc _) (by unfold maxLen; omega) _ (.int .i64 p) rfl hky trivial q rfl hwq ?_);intro w4 hm4 hc4;rw [HST.out] at hm4;have U_:=hide hm4;have jB:Hid (ah w1 w4 []):=hide ((HR.out.alloc _).trans hc4 (fun k hk=>.inr (by simp only [List.mem_singleton] at hk; omega)));clear hm4 hc4;go_wp2;go_roundw
      case rel=>exact⟨k+1,by omega,by go_num,jB,n+1,by omega,U_⟩
      case measure=>simp [intOf]; omega
    . have hk2:k=fx.length:=by omega
      subst hk2;have abA:=HM.out;rw [List.take_length] at abA;have Va:=hide abA;have hml:=abA.lt;have d1:=HR.out.cell c1 (by simp);clear abA HM;go_wp2;go_loopw [11,58] (fun v i w2=>∃ k:Nat,k<=bm.code.length/\i=.int .i64 k/\Hid (ah w1 w2 [])/\Hid (w2.ownsRow w1.heap.size 124 1 v k (jH ((uP fx bm.code).take k)))/\Hid (lK w2 3 w1.heap.size n (wE fx))) (fun _ i _=>bm.code.length - (intOf i).toNat)
      case atStart=>exact⟨0,Nat.zero_le _,rfl,HR,hide (World.ownsRow_nil _ _ _ _),Va⟩
      case round =>
       obtain⟨k2,hk2,rfl,HR2,G_,QN⟩:=hrel;by_cases hlt2:k2<bm.code.length
       . obtain⟨g,hg,hgl,hgb,hcells⟩:=HX2.out (by omega)
         subst hg;obtain⟨x,hsx⟩:∃ x,bm.code[k2]?=some x:=⟨bm.code[k2],by simp [hlt2]⟩
         obtain⟨q0,q1,q2,q3,q4⟩:=ZE bm.code k2 x hsx;have ca0:=HR2.out.cell (hcells _ _ q0) (by simp);have ca1:=HR2.out.cell (hcells _ _ q1) (by simp);have ca2:=HR2.out.cell (hcells _ _ q2) (by simp);have ca3:=HR2.out.cell (hcells _ _ q3) (by simp);have ca4:=HR2.out.cell (hcells _ _ q4) (by simp);have HT:=hide (aby (fx:=fx) hsx);obtain⟨op,d,a,b1,n1⟩:=x;have hky:=wF (k:=k2) (by omega) (by omega);have hgr:g<wr.heap.size:=by have:=HR2.out.size; omega
         obtain⟨i0,hi,hz0,hz1,hz2⟩:=info_parts aia;obtain⟨Ao,co,rfl⟩:=bK G_.out;clear hcells hsx q0 q1 q2 q3 q4
         cases hq:zh fx k2 with
         | none =>
          have hen:=fun W=>ZC ⟨op,d,a,b1,n1⟩ W;have hpt:patched fx k2 ⟨op,d,a,b1,n1⟩=⟨op,d,a,b1,n1⟩:=by unfold patched; rw [hq]
          unfold bD at hen;have hlk:wE fx (.int .i64 k2)=none:=hq;clear hq;go_wp2_with (at_lookup; refine qK rfl _ _ 241 rfl 3 kN Tryz.underlying241 w1.heap.size n (wE fx) rfl (QN.out.alloc _) _ (.int .i64 k2) rfl hky trivial ?_; rw [hlk]);go_at_call 112;refine(hen _).mono ?_;rintro e w4 ⟨⟨z4,rfl⟩,hc4⟩;have hc24:ah wr w4 []:=((ah.refl wr []).alloc _).trans hc4 (by simp);have jB:=hide hc24;have qc:=hide (aH G_.out hc24 (fun g hg=>by simp));have U_:=hide (QN.out.aj hc24 (by simp));have HTT:=hide (HT.out.trans (by rw [hpt]));clear hc4 hc24 hpt hlk hen HT;generalize encI _=ee at HTT ⊢;go_wp2_with (at_builtin; refine wpList_append_own _ rfl _ _ 61 rfl w1.heap.size 124 i0 (.int .u32 0) 1 4 Tryz.underlying61 hi hz0 hz1 hz2 rfl (by decide) _ k2 _ rfl (qc.out.alloc _) ⟨w4.heap.size,0,none⟩ 1 1 [.int .u32 ee] rfl rfl ?c1 ?c2 ?c3 ?c4 ?c5 ?_)
          case c1 =>
           intro j u hj
           match j,hj with
           | 0,hj=>simp at hj; subst hj; simp [Addr.add]
          case c2=>intro u hu; simp at hu; subst hu; rfl
          case c3=>unfold maxLen; omega
          case c4=>omega
          case c5=>have:=HR2.out.size; have:=jB.out.size; simp; omega
          intro v' w5 hown' hgrow _;have Ah:ah w4 w5 (Value.slice Ao k2 co).ownBlock.toList:=((ah.refl w4 _).alloc _).trans (ah.fZ hgrow (fun k hk=>.inl (by simp [hk]))) (fun k hk=>.inl hk)
          have hM5:=U_.out.aj Ah (fun hm=>by
           have hm':=Option.mem_toList.1 hm;obtain⟨cur,hcur⟩:=iY qc.out hm';obtain⟨es,kk,hes⟩:=U_.out.obj
           exact Nz hcur hes rfl)
          have hC5:ah w1 w5 []:=(HR2.out.trans jB.out (by simp)).trans Ah (fun k hk=>.inr (by have:=(qc.out.lt k (Option.mem_toList.1 hk)).1; exact this));have HM5:=hide hM5;have jD:=hide hC5;have QZ:=hide hown';obtain⟨A6,c6,rfl⟩:=bK hown';clear hown' hgrow Ah hM5 hC5;go_wp2;go_roundw
          case rel =>
           refine⟨k2+1,by omega,by go_num,jD,?_,HM5⟩;rw [HTT.out,QY];exact QZ
          case measure=>simp [intOf]; omega
         | some tq =>
          have hen:=fun W=>ZC ⟨op,d,a,b1,tq⟩ W;have hpt:patched fx k2 ⟨op,d,a,b1,n1⟩=⟨op,d,a,b1,tq⟩:=by unfold patched; rw [hq]
          unfold bD at hen;have hlk:wE fx (.int .i64 k2)=some tq:=hq;clear hq;go_wp2_with (at_lookup; refine qK rfl _ _ 241 rfl 3 kN Tryz.underlying241 w1.heap.size n (wE fx) rfl (QN.out.alloc _) _ (.int .i64 k2) rfl hky trivial ?_; rw [hlk]);go_at_call 112;refine(hen _).mono ?_;rintro e w4 ⟨⟨z4,rfl⟩,hc4⟩;have hc24:ah wr w4 []:=((ah.refl wr []).alloc _).trans hc4 (by simp);have jB:=hide hc24;have qc:=hide (aH G_.out hc24 (fun g hg=>by simp));have U_:=hide (QN.out.aj hc24 (by simp));have HTT:=hide (HT.out.trans (by rw [hpt]));clear hc4 hc24 hpt hlk hen HT;generalize encI _=ee at HTT ⊢;go_wp2_with (at_builtin; refine wpList_append_own _ rfl _ _ 61 rfl w1.heap.size 124 i0 (.int .u32 0) 1 4 Tryz.underlying61 hi hz0 hz1 hz2 rfl (by decide) _ k2 _ rfl (qc.out.alloc _) ⟨w4.heap.size,0,none⟩ 1 1 [.int .u32 ee] rfl rfl ?c1 ?c2 ?c3 ?c4 ?c5 ?_)
          case c1 =>
           intro j u hj
           match j,hj with
           | 0,hj=>simp at hj; subst hj; simp [Addr.add]
          case c2=>intro u hu; simp at hu; subst hu; rfl
          case c3=>unfold maxLen; omega
          case c4=>omega
          case c5=>have:=HR2.out.size; have:=jB.out.size; simp; omega
          intro v' w5 hown' hgrow _;have Ah:ah w4 w5 (Value.slice Ao k2 co).ownBlock.toList:=((ah.refl w4 _).alloc _).trans (ah.fZ hgrow (fun k hk=>.inl (by simp [hk]))) (fun k hk=>.inl hk)
          have hM5:=U_.out.aj Ah (fun hm=>by
           have hm':=Option.mem_toList.1 hm;obtain⟨cur,hcur⟩:=iY qc.out hm';obtain⟨es,kk,hes⟩:=U_.out.obj
           exact Nz hcur hes rfl)
          have hC5:ah w1 w5 []:=(HR2.out.trans jB.out (by simp)).trans Ah (fun k hk=>.inr (by have:=(qc.out.lt k (Option.mem_toList.1 hk)).1; exact this));have HM5:=hide hM5;have jD:=hide hC5;have QZ:=hide hown';obtain⟨A6,c6,rfl⟩:=bK hown';clear hown' hgrow Ah hM5 hC5;go_wp2;go_roundw
          case rel =>
           refine⟨k2+1,by omega,by go_num,jD,?_,HM5⟩;rw [HTT.out,QY];exact QZ
          case measure=>simp [intOf]; omega
       . have hk3:k2=bm.code.length:=by omega
         subst hk3;have ho2:=G_.out;rw [List.take_of_length_le (by rw [aeF]; omega)] at ho2;have J4:=hide ho2;obtain⟨A6,c6,rfl⟩:=bK ho2;clear ho2 G_;go_wp2;refine bodyPost_ret (results_tmp3 rfl _ _ _) rfl ?_;rw [U9.out]
         exact ⟨HC.out.trans HR2.out (by simp),_,rfl,Sl.own J4.out,fun A n c e => by
          injection e with e;have:=(J4.out.lt A.block (by rw [e]; rfl)).1
          exact Nat.le_trans HC.out.size this⟩
