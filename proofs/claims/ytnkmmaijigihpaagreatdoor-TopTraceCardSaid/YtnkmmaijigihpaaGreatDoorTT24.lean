/- Texts of this claim, side by side: AudP, AudF, AudT, TopA, AudN, AudU, AudQ. -/
import Derived.Test.YtnkmmaijigihpaaGreatDoorDevL
import Derived.Test.YtnkmmaijigihpaaGreatDoorTT23
set_option linter.unusedVariables false
set_option linter.unusedSimpArgs false
set_option maxRecDepth 100000
set_option maxHeartbeats 8000000
namespace Go.Proofs.YtnkmmaijigihpaaGreatDoor
section
open Go Go.RowKit Go.Deep Go.Maps Ab Xi
theorem adi {w:World} {g:Nat} {t:TypeId} {cs:List Value} (h:aA w g t cs):jB w g:=⟨_,_,_,h⟩
theorem aai {w:World} {c:Nat} {words:List Nat} {s:CS} {ws:List Int} {F:List Nat} (h:dW w c words s ws F):∀ k∈F,jB w k:=by
 obtain ⟨b,r,cv,mv,h,rfl,_⟩:=h;intro k hk;simp only [j_,List.mem_append,List.mem_cons,List.not_mem_nil,or_false] at hk;rcases hk with (rfl | rfl) | hk
 . exact ⟨_,_,_,h.sO.head⟩
 . exact ⟨_,_,_,h.sO.row⟩
 . obtain ⟨cs,t,h1,_⟩:=h.core.typed k hk
   exact ⟨_,_,_,h1⟩
theorem yS {w:World} {v:Value} {xs:List Value} (h:Sl w v xs) (hx:0 < xs.length) {A:Addr} {m q:Nat} (e:v = .slice (some A) m q):jB w A.block:=by
 subst e;obtain ⟨b,off,e1,hc,_⟩:=h.at_ (k:=0) (u:=xs[0]'hx) (by simp);injection e1 with e1;subst e1;exact KZ hc
theorem aaj {w:World} {v:Value} (h:Ah w v):∀ k∈qH v,jB w k:=by
 obtain ⟨v1,v2,v3,v4,v5,rfl,g1,g2,g3,g4,g5⟩:=h;intro k hk;obtain ⟨u,hu,hub⟩:=List.mem_filterMap.1 hk;obtain ⟨A,m,q,e,rfl⟩:=OG hub;simp only [List.mem_cons,List.not_mem_nil,or_false] at hu;rcases hu with rfl | rfl | rfl | rfl | rfl
 . exact yS g1 (by simp only [iP,List.length_map,r_]; omega) e
 . exact yS g2 (by rw [nJ,qW]; omega) e
 . exact yS g3 (by rw [show (bools iQ).length = iQ.length by simp [bools],show iQ.length = 908 by decide +kernel]; omega) e
 . exact yS g4 (by rw [lG]; decide) e
 . exact yS g5 (by rw [lG,show dL.length = 32 by decide +kernel]; omega) e
theorem dD.cells {w:World} {d c:Nat} {x:Xi.St} {s:CS} {ran:Bool} {n:Nat} {F I:List Nat} (h:dD w d c x s ran n F I):∀ k∈d :: (F ++ I),jB w k:=fun k hk => by
 obtain ⟨a1,a2,a3,a4,a5,n1,c1,n2,c2,n3,c3,n4,c4,n5,c5,h1,h2,h3⟩:=h.ex;obtain ⟨mem,hk0,_⟩:=h.core;simp only [List.mem_cons,List.mem_append] at hk;rcases hk with rfl | hk | hk
 . exact adi h1
 . exact aai hk0 k hk
 . exact aaj h2 k (h3 ▸ hk)
end

section
open Go Go.RowKit Go.Deep Go.Maps Ab Xi
attribute [local go_sem] Oper.semAt_some
theorem aak {w:World} {b b':Nat} {v v':Value} (h:w.ownsRow b 69 3 v aX.length (bH (aX.map sQ))) (h':w.ownsRow b' 69 3 v' aX.length (bH (aX.map sQ))) :
 Calls Tryz.prog 28 #[v,v'] w fun e w' => e = .returned (.int .i64 (-1))/\ah w w' []:=by
 have hml:=uw;generalize aX = ks at *;have h0:0 < ks.length:=by omega
 obtain ⟨A,c,rfl,hx⟩:=jC h;obtain ⟨g,rfl,hgl,hgb,hcells⟩:=hx h0;obtain ⟨A',c',rfl,hx'⟩:=jC h';obtain ⟨g',rfl,hgl',hgb',hcells'⟩:=hx' h0;have HX:=hide hcells;have UR:=hide hcells';clear h hx hcells h' hx' hcells';rw [hml];go_enter Tryz.func28,Tryz.ntmps28
 go_wp2_with fail
 go_loopw [6,13] (fun _ i wr => ∃ j:Nat,j<=22724/\i = .int .i64 j/\Hid (ah w wr [])) (fun _ i _ => 22724 - (intOf i).toNat)
 case atStart => exact ⟨0,Nat.zero_le _,rfl,hide (ah.refl w [])⟩
 case round =>
  obtain ⟨j,hj,rfl,HC⟩:=hrel;by_cases hlt:j < 22724
  . obtain ⟨k,hk⟩:∃ k,ks[j]? = some k:=⟨ks[j]'(by omega),by simp⟩
    have hm:=yP (ks.map sQ) j (sQ k) (by simp [hk]);have c0:wr.cell? ⟨g,j * 3,none⟩ = some (.int .i64 (k.pc:Int)):=HC.out.cell (HX.out _ _ hm.1) (by simp);have c1:wr.cell? ⟨g,j * 3 + 1,none⟩ = some (.int .i64 ((k.ad:Int) - 1)):=HC.out.cell (HX.out _ _ hm.2.1) (by simp);have c2:wr.cell? ⟨g,j * 3 + 2,none⟩ = some (.int .i64 (k.co:Int)):=HC.out.cell (HX.out _ _ hm.2.2) (by simp);have d0:wr.cell? ⟨g',j * 3,none⟩ = some (.int .i64 (k.pc:Int)):=HC.out.cell (UR.out _ _ hm.1) (by simp);have d1:wr.cell? ⟨g',j * 3 + 1,none⟩ = some (.int .i64 ((k.ad:Int) - 1)):=HC.out.cell (UR.out _ _ hm.2.1) (by simp);have d2:wr.cell? ⟨g',j * 3 + 2,none⟩ = some (.int .i64 (k.co:Int)):=HC.out.cell (UR.out _ _ hm.2.2) (by simp);clear hm hk;have qM:=fun (x0 x1 x2 y0 y1 y2:Int) (w:World) => adg x0 x1 x2 y0 y1 y2 w;go_wp2_with fail
    go_quiet (fail)
    go_wp2;go_roundw
    case rel => exact ⟨j + 1,by omega,by go_num,hide (HC.out.drewN _)⟩
    case measure => simp [intOf]; omega
  . have hjl:j = 22724:=by omega
    subst hjl;go_wp2;go_ret;exact ⟨rfl,HC.out⟩
theorem adk (w:World):Calls Tryz.prog 28 #[.slice none 0 0,.slice none 0 0] w fun e w' => e = .returned (.int .i64 (-1))/\ah w w' []:=by
 go_enter Tryz.func28,Tryz.ntmps28
 go_wp2_with fail
 go_loopw [6,13] (fun _ i wr => i = .int .i64 0/\w = wr) (fun _ i _ => 0)
 case atStart => exact ⟨rfl,rfl⟩
 case round =>
  obtain ⟨rfl,rfl⟩:=hrel;go_wp2;go_ret;exact ⟨rfl,ah.refl _ _⟩
section
variable {w:World} {d c:Nat} {x:Xi.St} {s:CS} {ran:Bool} {n:Nat} {F I:List Nat}
theorem UW (hg:jw w) (h:dD w d c x s ran n F I) (B:Option Addr) (k m:Nat):Calls Tryz.prog 29 #[.pointer (some ⟨d,0,none⟩),.agg #[.bool false,.slice B k m]] w fun e w' => e = .returned (.slice none 0 0)/\ah w w' (d :: F)/\∃ F',Sub F' F w/\dD w' d c st0 iD false n F' I:=by
 have b0:=aA.new w 30 [.bool false,.slice B k m];have z0:=b0.cell' (i:=0) rfl;have hc:=(ah.refl w []).alloc (.cells #[.bool false,.slice B k m] 30);have hr:=EY (hg.aj hc (by simp)) (h.aV hc);have HC:=hide hc;have HR:=hide hr;clear hr hc h hg b0;go_enter Tryz.func29,Tryz.ntmps29
 go_wp2_with fail
 go_at_call 8;refine HR.out.mono ?_;rintro e w2 ⟨rfl,hc2,F2,hs2,hd2⟩;have HD:=hide hd2;have HS:=hide hs2;have HC2:=hide (show ah w w2 (d :: F) from (HC.out.more (D':=d :: F) (by simp)).trans hc2 (fun k hk => .inl hk));clear HR hc2 hs2 hd2 z0;go_wp2;go_ret;exact ⟨rfl,HC2.out,F2,fun k hk => (HS.out k hk).imp_right (fun h => Nat.le_trans HC.out.size h),HD.out⟩
theorem aal (h:dD w d c x s ran n F I) {B:Option Addr} {k m:Nat} (hk:k≠20) (hl:k<=maxLen):Calls Tryz.prog 29 #[.pointer (some ⟨d,0,none⟩),.agg #[.bool true,.slice B k m]] w fun e w' => e = .returned (.slice none 0 0)/\ah w w' []:=by
 have b0:=aA.new w 30 [.bool true,.slice B k m];have z0:=b0.cell' (i:=0) rfl;have z1:=b0.cell' (i:=1) rfl;have hc:=(ah.refl w []).alloc (.cells #[.bool true,.slice B k m] 30);have hr:=OH (h.aV hc) (A:=B) (m:=m) hk hl;have hn:(l7 k != 0) = true:=by unfold l7; split <;> rfl
 obtain ⟨E,hE⟩:∃ E,l7 k = E:=⟨_,rfl⟩
 rw [hE] at hn hr;have HC:=hide hc;have HR:=hide hr;clear hr hc h hE b0;go_enter Tryz.func29,Tryz.ntmps29
 go_wp2_with fail
 go_at_call 9;refine HR.out.mono ?_;rintro e w2 ⟨rfl,hc2⟩;have HC2:=hide (HC.out.trans hc2 (D:=[]) (by simp));clear HR hc2 z0 z1;go_wp2;go_ret;exact ⟨rfl,HC2.out⟩
theorem VX (hg:jw w) (h:dD w d c x s ran n F I) (hn:n < 100) {B:Option Addr} {cb:Nat} {b:List Nat} (hl:b.length = 20) (hb:∀ y∈b,y < 256) (hin:Sl w (.slice B 20 cb) (bU b)) :
 Calls Tryz.prog 29 #[.pointer (some ⟨d,0,none⟩),.agg #[.bool true,.slice B 20 cb]] w fun e w' => ∃ v F' s',e = .returned v/\ah w w' (d :: F)/\Sub F' F w/\dD w' d c (x.next b) s' true (n + 1) F' I/\w'.ownsRow w.heap.size 69 3 v aX.length (bH (aX.map sQ)):=by
 have b0:=aA.new w 30 [.bool true,.slice B 20 cb];have z0:=b0.cell' (i:=0) rfl;have z1:=b0.cell' (i:=1) rfl;have hc:=(ah.refl w []).alloc (.cells #[.bool true,.slice B 20 cb] 30);have hr:=Ak (hg.aj hc (by simp)) (h.aV hc) hn hl hb (hin.keep hc);have HC:=hide hc;have HR:=hide hr;clear hr hc h hg b0 hin;go_enter Tryz.func29,Tryz.ntmps29
 go_wp2_with fail
 go_at_call 9;refine HR.out.mono ?_;rintro e w2 ⟨u,F2,s2,rfl,hc2,hs2,hd2,hu,_⟩;obtain ⟨Au,ku,rfl,_⟩:=id hu;have HD:=hide hd2;have HS:=hide (show Sub F2 F w from fun k hk => (hs2 k hk).imp_right (fun h => Nat.le_trans HC.out.size h));have HC2:=hide (show ah w w2 (d :: F) from (HC.out.more (D':=d :: F) (by simp)).trans hc2 (fun k hk => .inl hk));have hmk:=EW hd2;clear HR hc2 hs2 hd2 hu z0 z1;generalize (bU _).length = n9 at *;go_wp2_with fail
 go_at_call 11;refine hmk.mono ?_;rintro e w3 ⟨v3,rfl,hc3,ho3⟩;have fU:=hide (HC2.out.trans hc3 (by simp));have HD3:=hide (HD.out.aV hc3);have HO:=hide (Xu ho3 HC2.out.size);clear hmk hc3 ho3;go_wp2;go_ret;exact ⟨_,F2,s2,rfl,fU.out,HS.out,HD3.out,HO.out⟩
end
end

section
open Go Go.RowKit Go.Deep Go.Maps Ab Xi
def MV (r base:Nat) (v:Value) (w:World):Prop:=if r = 0 then v = .slice none 0 0 else w.ownsRow base 69 3 v aX.length (bH (aX.map sQ))
theorem MV.aj {r base:Nat} {v:Value} {w w':World} {D:List Nat} (h:MV r base v w) (hc:ah w w' D) (hD:∀ k∈D,k < base):MV r base v w':=by
 unfold MV at h ⊢;split
 . rwa [if_pos ‹_›] at h
 . rw [if_neg ‹_›] at h
   refine aH h hc (fun g hg hm => ?_);rcases h.2 with ⟨rfl,h0⟩ | ⟨g',cap,cur,rfl,h1,_⟩
   . cases hg
   . injection hg with hg
     subst hg;have:=hD _ hm;simp only at this;omega
theorem af8 {r b b':Nat} {v v':Value} {w:World} (h:MV r b v w) (h':MV r b' v' w):Calls Tryz.prog 28 #[v,v'] w fun e w' => e = .returned (.int .i64 (-1))/\ah w w' []:=by
 unfold MV at h h';split at h
 . rw [if_pos ‹_›] at h'
   subst h; subst h';exact adk w
 . rw [if_neg ‹_›] at h'
   exact aak h h'
def pR (w:World) (d n:Nat) (G:List Nat):Prop:=∃ c x s ran F I,dD w d c x s ran n F I/\G = d :: (F ++ I)
theorem pR.cells {w:World} {d n:Nat} {G:List Nat} (h:pR w d n G):∀ k∈G,jB w k:=by
 obtain ⟨c,x,s,ran,F,I,h,rfl⟩:=h;exact h.cells
theorem pR.low {w:World} {d n:Nat} {G:List Nat} (h:pR w d n G):∀ k∈G,k < w.heap.size:=by
 obtain ⟨c,x,s,ran,F,I,h,rfl⟩:=h;exact h.low
theorem pR.aj {w w':World} {d n:Nat} {G D:List Nat} (h:pR w d n G) (hc:ah w w' D) (hD:∀ k∈G,k∉D) (hG:∀ k∈D,11<=k):pR w' d n G:=by
 obtain ⟨c,x,s,ran,F,I,h,rfl⟩:=h;exact ⟨c,x,s,ran,F,I,h.am_ hc hD hG,rfl⟩
theorem Fe {w:World} (hg:jw w) {d n:Nat} {G:List Nat} (h:pR w d n G) {dd:bg} (hn:n < 100) {B:Option Addr} {cb:Nat} (hl:dd.2.length<=maxLen) (hb:∀ y∈dd.2,y < 256) (hin:Sl w (.slice B dd.2.length cb) (bU dd.2)) :
 Calls Tryz.prog 29 #[.pointer (some ⟨d,0,none⟩),.agg #[.bool dd.1,.slice B dd.2.length cb]] w fun e w' => ∃ v G' D,e = .returned v/\ah w w' D/\(∀ k∈D,k∈G/\11<=k)/\Sub G' G w/\pR w' d (n + bZ dd) G'/\MV (bZ dd) w.heap.size v w':=by
 obtain ⟨c,x,s,ran,F,I,h,rfl⟩:=h;obtain ⟨f,b⟩:=dd
 cases f with
 | false =>
  refine (UW hg h B b.length cb).mono ?_;rintro e w' ⟨rfl,hc,F',hs,hd⟩;refine ⟨_,_,d :: F,rfl,hc,fun k hk => ⟨E8 hk,h.Qk k hk⟩,?_,⟨c,_,_,_,F',I,hd,rfl⟩,rfl⟩;intro k hk;rcases List.mem_cons.1 hk with rfl | hk
  . exact .inl (by simp)
  . rcases List.mem_append.1 hk with hk | hk
    . exact (hs k hk).imp_left (fun h => by simp [h])
    . exact .inl (by simp [hk])
 | true =>
  by_cases h20:b.length = 20
  . have hr:bZ (true,b) = 1:=by unfold bZ; simp [h20]
    rw [hr];simp only [h20] at hin ⊢;refine (VX hg h hn h20 hb hin).mono ?_;rintro e w' ⟨v,F',s',rfl,hc,hs,hd,ho⟩;refine ⟨_,_,d :: F,rfl,hc,fun k hk => ⟨E8 hk,h.Qk k hk⟩,?_,⟨c,_,_,_,F',I,hd,rfl⟩,ho⟩;intro k hk;rcases List.mem_cons.1 hk with rfl | hk
    . exact .inl (by simp)
    . rcases List.mem_append.1 hk with hk | hk
      . exact (hs k hk).imp_left (fun h => by simp [h])
      . exact .inl (by simp [hk])
  . have hr:bZ (true,b) = 0:=by unfold bZ; simp [h20]
    rw [hr];refine (aal h (B:=B) (m:=cb) h20 hl).mono ?_;rintro e w' ⟨rfl,hc⟩;exact ⟨_,d :: (F ++ I),[],rfl,hc,by simp,fun k hk => .inl hk,⟨c,x,s,ran,F,I,h.aV hc,rfl⟩,rfl⟩
def Two (w:World) (d1 d2 n1 n2 b:Nat) (X:List Nat):Prop:=∃ G1 G2,pR w d1 n1 G1/\pR w d2 n2 G2/\(∀ k∈G1,k∉G2/\b<=k/\k∉X)/\(∀ k∈G2,b<=k/\k∉X)/\b<=w.heap.size/\11<=b/\∀ k∈X,k < w.heap.size
def aam (w:World) (d1 d2 n1 n2 b:Nat) (X:List Nat) (m:Nat):Prop:=∃ G1 G2,pR w d1 n1 G1/\pR w d2 n2 G2/\(∀ k∈G1,k∉G2/\b<=k/\k∉X)/\(∀ k∈G2,b<=k/\k∉X)/\b<=w.heap.size/\11<=b/\(∀ k∈X,k < w.heap.size)/\∀ k∈G2,k < m
section
variable {w w':World} {d1 d2 n1 n2 b m:Nat} {X D:List Nat}
theorem Two.aj (h:Two w d1 d2 n1 n2 b X) (hc:ah w w' D) (hD:∀ k∈D,(k∈X\/k < b\/w.heap.size<=k\/¬ jB w k)/\11<=k):Two w' d1 d2 n1 n2 b X:=by
 obtain ⟨G1,G2,h1,h2,h3,h4,h5,h6,h7⟩:=h;refine ⟨G1,G2,h1.aj hc (fun k hk hm => ?_) (fun k hk => (hD k hk).2),h2.aj hc (fun k hk hm => ?_) (fun k hk => (hD k hk).2),h3,h4,Nat.le_trans h5 hc.size,h6,fun k hk => Nat.lt_of_lt_of_le (h7 k hk) hc.size⟩
 . have h30:=h3 k hk
   have:=h1.low k hk;have hcl:=h1.cells k hk;rcases (hD k hm).1 with h | h | h | h
   . exact h30.2.2 h
   . omega
   . omega
   . exact h hcl
 . have h30:=h4 k hk
   have:=h2.low k hk;have hcl:=h2.cells k hk;rcases (hD k hm).1 with h | h | h | h
   . exact h30.2 h
   . omega
   . omega
   . exact h hcl
theorem Two.aV (h:Two w d1 d2 n1 n2 b X) (hc:ah w w' []):Two w' d1 d2 n1 n2 b X:=h.aj hc (by simp)
theorem Two.new (h:Two w d1 d2 n1 n2 b X) (hc:ah w w' []) (Y:List Nat) (hY:∀ k∈Y,w.heap.size<=k/\k < w'.heap.size):Two w' d1 d2 n1 n2 b (Y ++ X):=by
 obtain ⟨G1,G2,h1,h2,h3,h4,h5,h6,h7⟩:=h;refine ⟨G1,G2,h1.aj hc (by simp) (by simp),h2.aj hc (by simp) (by simp),fun k hk => ⟨(h3 k hk).1,(h3 k hk).2.1,fun hm => ?_⟩,fun k hk => ⟨(h4 k hk).1,fun hm => ?_⟩,Nat.le_trans h5 hc.size,h6,fun k hk => ?_⟩
 . rcases List.mem_append.1 hm with hm | hm
   . have:=(hY k hm).1; have:=h1.low k hk; omega
   . exact (h3 k hk).2.2 hm
 . rcases List.mem_append.1 hm with hm | hm
   . have:=(hY k hm).1; have:=h2.low k hk; omega
   . exact (h4 k hk).2 hm
 . rcases List.mem_append.1 hk with hk | hk
   . exact (hY k hk).2
   . exact Nat.lt_of_lt_of_le (h7 k hk) hc.size
theorem Two.less (h:Two w d1 d2 n1 n2 b X) (Y:List Nat) (hY:∀ k∈Y,k∈X):Two w d1 d2 n1 n2 b Y:=by
 obtain ⟨G1,G2,h1,h2,h3,h4,h5,h6,h7⟩:=h;exact ⟨G1,G2,h1,h2,fun k hk => ⟨(h3 k hk).1,(h3 k hk).2.1,fun hm => (h3 k hk).2.2 (hY k hm)⟩,fun k hk => ⟨(h4 k hk).1,fun hm => (h4 k hk).2 (hY k hm)⟩,h5,h6,fun k hk => h7 k (hY k hk)⟩
theorem Two.La (hg:jw w) (h:Two w d1 d2 n1 n2 b X) {dd:bg} (hn:n1 < 100) {B:Option Addr} {cb:Nat} (hl:dd.2.length<=maxLen) (hb:∀ y∈dd.2,y < 256) (hin:Sl w (.slice B dd.2.length cb) (bU dd.2)) :
 Calls Tryz.prog 29 #[.pointer (some ⟨d1,0,none⟩),.agg #[.bool dd.1,.slice B dd.2.length cb]] w fun e w' => ∃ v D,e = .returned v/\ah w w' D/\(∀ k∈D,(b<=k/\k∉X/\k < w.heap.size)/\jB w k)/\aam w' d1 d2 (n1 + bZ dd) n2 b X w.heap.size/\MV (bZ dd) w.heap.size v w':=by
 obtain ⟨G1,G2,h1,h2,h3,h4,h5,h6,h7⟩:=h;refine (Fe hg h1 hn hl hb hin).mono ?_;rintro e w' ⟨v,G',D,rfl,hc,hD,hs,hd,hm⟩;refine ⟨v,D,rfl,hc,fun k hk => ⟨⟨(h3 k (hD k hk).1).2.1,(h3 k (hD k hk).1).2.2,h1.low k (hD k hk).1⟩,h1.cells k (hD k hk).1⟩,⟨G',G2,hd,h2.aj hc (fun k hk hm => (h3 k (hD k hm).1).1 hk) (fun k hk => (hD k hk).2),fun k hk => ?_,h4,Nat.le_trans h5 hc.size,h6,fun k hk => Nat.lt_of_lt_of_le (h7 k hk) hc.size,h2.low⟩,hm⟩;rcases hs k hk with h | h
 . exact h3 k h
 . exact ⟨fun hm => by have:=h2.low k hm; omega,by omega,fun hm => by have:=h7 k hm; omega⟩
theorem aam.Lc (hg:jw w) (h:aam w d1 d2 n1 n2 b X m) {dd:bg} (hn:n2 < 100) {B:Option Addr} {cb:Nat} (hl:dd.2.length<=maxLen) (hb:∀ y∈dd.2,y < 256) (hin:Sl w (.slice B dd.2.length cb) (bU dd.2)) :
 Calls Tryz.prog 29 #[.pointer (some ⟨d2,0,none⟩),.agg #[.bool dd.1,.slice B dd.2.length cb]] w fun e w' => ∃ v D,e = .returned v/\ah w w' D/\(∀ k∈D,(b<=k/\k∉X/\k < m)/\jB w k)/\Two w' d1 d2 n1 (n2 + bZ dd) b X/\MV (bZ dd) w.heap.size v w':=by
 obtain ⟨G1,G2,h1,h2,h3,h4,h5,h6,h7,h8⟩:=h;refine (Fe hg h2 hn hl hb hin).mono ?_;rintro e w' ⟨v,G',D,rfl,hc,hD,hs,hd,hmv⟩;refine ⟨v,D,rfl,hc,fun k hk => ⟨⟨(h4 k (hD k hk).1).1,(h4 k (hD k hk).1).2,h8 k (hD k hk).1⟩,h2.cells k (hD k hk).1⟩,⟨G1,G',h1.aj hc (fun k hk hm => (h3 k hk).1 (hD k hm).1) (fun k hk => (hD k hk).2),hd,fun k hk => ⟨fun hm => ?_,(h3 k hk).2⟩,fun k hk => ?_,Nat.le_trans h5 hc.size,h6,fun k hk => Nat.lt_of_lt_of_le (h7 k hk) hc.size⟩,hmv⟩
 . rcases hs k hm with h | h
   . exact (h3 k hk).1 h
   . have:=h1.low k hk; omega
 . rcases hs k hk with h | h
   . exact h4 k h
   . exact ⟨by omega,fun hm => by have:=h7 k hm; omega⟩
theorem Two.cost (h:Two w d1 d2 n1 n2 b X):Calls Tryz.prog 13 #[.pointer (some ⟨d1,0,none⟩)] w fun e w' => e = .returned (.int .i64 (bQ n1))/\w = w':=by
 obtain ⟨G1,G2,⟨c,x,s,ran,F,I,h1,_⟩,_⟩:=h;exact qg h1
end
def sF (ds:List bg) (l:List Nat):Nat:=(l.map fun k => bZ (ds.getD k (false,[]))).sum
theorem OL (ds:List bg) (l:List Nat) {k:Nat} {d:bg} (h:ds[k]? = some d):sF ds (l ++ [k]) = sF ds l + bZ d:=by
 unfold sF;rw [List.map_append,List.sum_append,List.map_cons,List.map_nil,List.sum_cons,List.sum_nil,Nat.add_zero,List.getD_eq_getElem?_getD,h];rfl
theorem ajk (d:bg):bZ d<=1:=by
 unfold bZ
 cases d.1 && decide (d.2.length = 20) <;> decide
theorem ajl (ds:List bg) (l:List Nat):sF ds l<=l.length:=by
 unfold sF
 induction l with
 | nil => exact Nat.le_refl _
 | cons a l ih => have:=ajk (ds.getD a (false,[])); simp only [List.map_cons,List.sum_cons,List.length_cons]; omega
theorem aan (ds:List bg):∀ k,k<=ds.length->sF ds (List.range k) = bV (ds.take k):=fun k => by
 induction k with
 | zero => intro _; rfl
 | succ k ih =>
  intro hk;have h:=List.getElem?_eq_getElem (l:=ds) (i:=k) (by omega);rw [List.range_succ,OL ds _ h,ih (by omega),KX h]
theorem adl {d e:bg} (h:dP d = dP e):bZ d = bZ e:=by
 obtain ⟨f,l⟩:=d;obtain ⟨f',l'⟩:=e;unfold dP at h;injection h with h1 h2;simp only at h1 h2;subst h1;unfold bZ
 cases f with
 | false => rfl
 | true => simp only [if_true] at h2; simp only [h2]
end

section
open Go Go.RowKit Go.Deep Go.Maps Ab Xi
def oV (w:World) (d n:Nat) (ran:Bool) (G:List Nat):Prop:=∃ c x s F I,dD w d c x s ran n F I/\G = d :: (F ++ I)
def MR (ran:Bool) (base:Nat) (v:Value) (w:World):Prop:=MV (if ran then 1 else 0) base v w
section
variable {w w' w1:World} {d n d1 d2 n1 n2:Nat} {ran ran1 ran2:Bool} {G D:List Nat}
theorem oV.aj (h:oV w d n ran G) (hc:ah w w' D) (hD:∀ k∈G,k∉D) (hG:∀ k∈D,11<=k):oV w' d n ran G:=by
 obtain ⟨c,x,s,F,I,h,rfl⟩:=h;exact ⟨c,x,s,F,I,h.am_ hc hD hG,rfl⟩
theorem oV.low (h:oV w d n ran G):∀ k∈G,k < w.heap.size:=by
 obtain ⟨c,x,s,F,I,h,rfl⟩:=h;exact h.low
theorem U0 {F F' I:List Nat} (hs:Sub F' F w):Sub (d :: (F' ++ I)) (d :: (F ++ I)) w:=fun k hk => by
 rcases List.mem_cons.1 hk with rfl | hk
 . exact .inl (by simp)
 . rcases List.mem_append.1 hk with hk | hk
   . exact (hs k hk).imp_left (fun h => by simp [h])
   . exact .inl (by simp [hk])
theorem XM (hg:jw w) (h:oV w d n ran G) {b:List Nat} (h20:b.length = 20) (hn:n < 100) {B:Option Addr} {cb:Nat} (hb:∀ y∈b,y < 256) (hin:Sl w (.slice B b.length cb) (bU b)) :
 Calls Tryz.prog 9 #[.pointer (some ⟨d,0,none⟩),.slice B b.length cb] w fun e w' => ∃ A c G' D,e = .returned (.tuple #[.slice A 32 c,.int .i64 0])/\ah w w' D/\(∀ k∈D,k∈G/\11<=k)/\Sub G' G w/\oV w' d (n + 1) true G':=by
 obtain ⟨c,x,s,F,I,h,rfl⟩:=h;rw [h20] at hin ⊢;refine (Ak hg h hn h20 hb hin).mono ?_;rintro e w' ⟨u,F',s',rfl,hc,hs,hd,hu,_⟩;obtain ⟨Au,ku,rfl,_⟩:=id hu;refine ⟨Au,ku,_,d :: F,?_,hc,fun k hk => ⟨E8 hk,h.Qk k hk⟩,U0 hs,⟨c,_,_,F',I,hd,rfl⟩⟩;rw [show (bU ((x.next b).frame (lJ b))).length = 32 by unfold bU; rw [List.length_map]; rfl]
theorem XO (h:oV w d n ran G) {b:List Nat} (h20:b.length≠20) (hl:b.length<=maxLen) (B:Option Addr) (cb:Nat) :
 Calls Tryz.prog 9 #[.pointer (some ⟨d,0,none⟩),.slice B b.length cb] w fun e w' => e = .returned (.tuple #[.slice none 0 0,.int .i64 (l7 b.length)])/\ah w w' []:=by
 obtain ⟨c,x,s,F,I,h,rfl⟩:=h;exact OH h h20 hl
theorem XP (hg:jw w) (h:oV w d n ran G) :
 Calls Tryz.prog 8 #[.pointer (some ⟨d,0,none⟩)] w fun e w' => ∃ v G' D,e = .returned v/\ah w w' D/\(∀ k∈D,k∈G/\11<=k)/\Sub G' G w/\oV w' d n false G':=by
 obtain ⟨c,x,s,F,I,h,rfl⟩:=h;refine (EY hg h).mono ?_;rintro e w' ⟨rfl,hc,F',hs,hd⟩;exact ⟨_,_,d :: F,rfl,hc,fun k hk => ⟨E8 hk,h.Qk k hk⟩,U0 hs,⟨c,_,_,F',I,hd,rfl⟩⟩
theorem XQ (h:oV w d n ran G):Calls Tryz.prog 11 #[.pointer (some ⟨d,0,none⟩)] w fun e w' => ∃ v,e = .returned v/\ah w w' []/\MR ran w.heap.size v w':=by
 obtain ⟨c,x,s,F,I,h,rfl⟩:=h
 cases ran with
 | true =>
  refine (EW h).mono ?_;rintro e w' ⟨v,rfl,hc,ho⟩;exact ⟨v,rfl,hc,ho⟩
 | false =>
  refine (VT h).mono ?_;rintro e w' ⟨rfl,rfl⟩;exact ⟨_,rfl,ah.refl _ _,rfl⟩
theorem adn {r:Bool} {b b':Nat} {v v':Value} (h:MR r b v w) (h':MR r b' v' w):Calls Tryz.prog 10 #[v,v'] w fun e w' => e = .returned (.bool true)/\ah w w' []:=by
 unfold MR MV at h h'
 cases r with
 | false =>
  obtain rfl:v = .slice none 0 0:=h;obtain rfl:v' = .slice none 0 0:=h';exact VW w
 | true => exact ajj h h'
def dU (w1 w:World) (d1 d2 n1 n2:Nat) (ran1 ran2:Bool):Prop:=∃ G1 G2,oV w d1 n1 ran1 G1/\oV w d2 n2 ran2 G2/\(∀ k∈G1,k∉G2/\w1.heap.size<=k)/\(∀ k∈G2,w1.heap.size<=k)/\ah w1 w []
theorem dU.aV (h:dU w1 w d1 d2 n1 n2 ran1 ran2) (hc:ah w w' []):dU w1 w' d1 d2 n1 n2 ran1 ran2:=by
 obtain ⟨G1,G2,h1,h2,h3,h4,h5⟩:=h;exact ⟨G1,G2,h1.aj hc (by simp) (by simp),h2.aj hc (by simp) (by simp),h3,h4,h5.trans hc (by simp)⟩
theorem dU.world (h:dU w1 w d1 d2 n1 n2 ran1 ran2):ah w1 w []:=by
 obtain ⟨G1,G2,h1,h2,h3,h4,h5⟩:=h;exact h5
theorem dU.one {G1 G2 G':List Nat} {m1:Nat} {q1:Bool} (h2:oV w d2 n2 ran2 G2) (h3:∀ k∈G1,k∉G2/\w1.heap.size<=k) (h4:∀ k∈G2,w1.heap.size<=k) (h5:ah w1 w []) (hc:ah w w' D) (hD:∀ k∈D,k∈G1/\11<=k) (hs:Sub G' G1 w) (hd:oV w' d1 m1 q1 G'):dU w1 w' d1 d2 m1 n2 q1 ran2 :=
 ⟨G',G2,hd,h2.aj hc (fun k hk hm => (h3 k (hD k hm).1).1 hk) (fun k hk => (hD k hk).2),fun k hk => by
   rcases hs k hk with h | h
   . exact h3 k h
   . exact ⟨fun hm => by have:=h2.low k hm; omega,Nat.le_trans h5.size h⟩,h4,h5.trans hc (fun k hk => .inr (h3 k (hD k hk).1).2)⟩
theorem dU.two {G1 G2 G':List Nat} {m2:Nat} {q2:Bool} (h1:oV w d1 n1 ran1 G1) (h3:∀ k∈G1,k∉G2/\w1.heap.size<=k) (h4:∀ k∈G2,w1.heap.size<=k) (h5:ah w1 w []) (hc:ah w w' D) (hD:∀ k∈D,k∈G2/\11<=k) (hs:Sub G' G2 w) (hd:oV w' d2 m2 q2 G'):dU w1 w' d1 d2 n1 m2 ran1 q2 :=
 ⟨G1,G',h1.aj hc (fun k hk hm => (h3 k hk).1 (hD k hm).1) (fun k hk => (hD k hk).2),hd,fun k hk => ⟨fun hm => by
   rcases hs k hm with h | h
   . exact (h3 k hk).1 h
   . have:=h1.low k hk; omega,(h3 k hk).2⟩,fun k hk => by
   rcases hs k hk with h | h
   . exact h4 k h
   . exact Nat.le_trans h5.size h,h5.trans hc (fun k hk => .inr (h4 k (hD k hk).1))⟩
theorem dU.aoI (hg:jw w) (h:dU w1 w d1 d2 n1 n2 ran1 ran2) {b:List Nat} (h20:b.length = 20) (hn:n1 < 100) {B:Option Addr} {cb:Nat} (hb:∀ y∈b,y < 256) (hin:Sl w (.slice B b.length cb) (bU b)) :
 Calls Tryz.prog 9 #[.pointer (some ⟨d1,0,none⟩),.slice B b.length cb] w fun e w' => ∃ A c,e = .returned (.tuple #[.slice A 32 c,.int .i64 0])/\dU w1 w' d1 d2 (n1 + 1) n2 true ran2:=by
 obtain ⟨G1,G2,h1,h2,h3,h4,h5⟩:=h;refine (XM hg h1 h20 hn hb hin).mono ?_;rintro e w' ⟨A,c,G',D,rfl,hc,hD,hs,hd⟩;exact ⟨A,c,rfl,.one h2 h3 h4 h5 hc hD hs hd⟩
theorem dU.aoJ (hg:jw w) (h:dU w1 w d1 d2 n1 n2 ran1 ran2) {b:List Nat} (h20:b.length = 20) (hn:n2 < 100) {B:Option Addr} {cb:Nat} (hb:∀ y∈b,y < 256) (hin:Sl w (.slice B b.length cb) (bU b)) :
 Calls Tryz.prog 9 #[.pointer (some ⟨d2,0,none⟩),.slice B b.length cb] w fun e w' => ∃ A c,e = .returned (.tuple #[.slice A 32 c,.int .i64 0])/\dU w1 w' d1 d2 n1 (n2 + 1) ran1 true:=by
 obtain ⟨G1,G2,h1,h2,h3,h4,h5⟩:=h;refine (XM hg h2 h20 hn hb hin).mono ?_;rintro e w' ⟨A,c,G',D,rfl,hc,hD,hs,hd⟩;exact ⟨A,c,rfl,.two h1 h3 h4 h5 hc hD hs hd⟩
theorem dU.no1 (h:dU w1 w d1 d2 n1 n2 ran1 ran2) {b:List Nat} (h20:b.length≠20) (hl:b.length<=maxLen) (B:Option Addr) (cb:Nat) :
 Calls Tryz.prog 9 #[.pointer (some ⟨d1,0,none⟩),.slice B b.length cb] w fun e w' => e = .returned (.tuple #[.slice none 0 0,.int .i64 (l7 b.length)])/\dU w1 w' d1 d2 n1 n2 ran1 ran2:=by
 obtain ⟨G1,G2,h1,_⟩:=id h;refine (XO h1 h20 hl B cb).mono ?_;rintro e w' ⟨rfl,hc⟩;exact ⟨rfl,h.aV hc⟩
theorem dU.no2 (h:dU w1 w d1 d2 n1 n2 ran1 ran2) {b:List Nat} (h20:b.length≠20) (hl:b.length<=maxLen) (B:Option Addr) (cb:Nat) :
 Calls Tryz.prog 9 #[.pointer (some ⟨d2,0,none⟩),.slice B b.length cb] w fun e w' => e = .returned (.tuple #[.slice none 0 0,.int .i64 (l7 b.length)])/\dU w1 w' d1 d2 n1 n2 ran1 ran2:=by
 obtain ⟨G1,G2,_,h2,_⟩:=id h;refine (XO h2 h20 hl B cb).mono ?_;rintro e w' ⟨rfl,hc⟩;exact ⟨rfl,h.aV hc⟩
theorem dU.anf (hg:jw w) (h:dU w1 w d1 d2 n1 n2 ran1 ran2):Calls Tryz.prog 8 #[.pointer (some ⟨d1,0,none⟩)] w fun e w' => ∃ v,e = .returned v/\dU w1 w' d1 d2 n1 n2 false ran2:=by
 obtain ⟨G1,G2,h1,h2,h3,h4,h5⟩:=h;refine (XP hg h1).mono ?_;rintro e w' ⟨v,G',D,rfl,hc,hD,hs,hd⟩;exact ⟨v,rfl,.one h2 h3 h4 h5 hc hD hs hd⟩
theorem dU.ang (hg:jw w) (h:dU w1 w d1 d2 n1 n2 ran1 ran2):Calls Tryz.prog 8 #[.pointer (some ⟨d2,0,none⟩)] w fun e w' => ∃ v,e = .returned v/\dU w1 w' d1 d2 n1 n2 ran1 false:=by
 obtain ⟨G1,G2,h1,h2,h3,h4,h5⟩:=h;refine (XP hg h2).mono ?_;rintro e w' ⟨v,G',D,rfl,hc,hD,hs,hd⟩;exact ⟨v,rfl,.two h1 h3 h4 h5 hc hD hs hd⟩
theorem dU.La (h:dU w1 w d1 d2 n1 n2 ran1 ran2):Calls Tryz.prog 11 #[.pointer (some ⟨d1,0,none⟩)] w fun e w' => ∃ v,e = .returned v/\ah w w' []/\MR ran1 w.heap.size v w':=by
 obtain ⟨G1,G2,h1,_⟩:=h;exact XQ h1
theorem dU.Lc (h:dU w1 w d1 d2 n1 n2 ran1 ran2):Calls Tryz.prog 11 #[.pointer (some ⟨d2,0,none⟩)] w fun e w' => ∃ v,e = .returned v/\ah w w' []/\MR ran2 w.heap.size v w':=by
 obtain ⟨G1,G2,_,h2,_⟩:=h;exact XQ h2
theorem dU.ahc (h:dU w1 w d1 d2 n1 n2 ran1 ran2):Calls Tryz.prog 13 #[.pointer (some ⟨d1,0,none⟩)] w fun e w' => e = .returned (.int .i64 (bQ n1))/\w = w':=by
 obtain ⟨G1,G2,⟨c,x,s,F,I,h1,_⟩,_⟩:=h;exact qg h1
theorem dU.ahd (h:dU w1 w d1 d2 n1 n2 ran1 ran2):Calls Tryz.prog 13 #[.pointer (some ⟨d2,0,none⟩)] w fun e w' => e = .returned (.int .i64 (bQ n2))/\w = w':=by
 obtain ⟨G1,G2,_,⟨c,x,s,F,I,h1,_⟩,_⟩:=h;exact qg h1
end
end

section
open Go Go.RowKit Go.Deep Go.Maps Go.Shelf Ab Xi
attribute [local go_sem] Oper.semAt_some
def Ld (s m:Bool) (f c:Int):Value:=.agg #[.bool s,.bool m,.int .i64 f,.int .i64 c]
def GK (s m:Bool) (f c:Int):List Value:=[.bool s,.bool m,.int .i64 f,.int .i64 c]
theorem ado {w:World} {g:Nat} {s m:Bool} {f c:Int} (h:aA w g 39 (GK s m f c)):(loadVar 39 ⟨g,0,none⟩).run Tryz.prog w = .ok (Ld s m f c) w:=by
 have z0:=h.cell' (i:=0) rfl;have z1:=h.cell' (i:=1) rfl;have z2:=h.cell' (i:=2) rfl;have z3:=h.cell' (i:=3) rfl;unfold Ld;go_simp
theorem aqG {w:World} {g:Nat} {t:TypeId} {x0 x1 x2 x3:Value} (h:aA w g t [x0,x1,x2,x3]) (a0 a1 a2 a3:Value):aA ((((w.setCell ⟨g,0,none⟩ a0).setCell ⟨g,1,none⟩ a1).setCell ⟨g,2,none⟩ a2).setCell ⟨g,3,none⟩ a3) g t [a0,a1,a2,a3]:=(((h.aK 0 a0).aK 1 a1).aK 2 a2).aK 3 a3
theorem af9 {w0 w:World} {D:List Nat} (h:ah w0 w D) {g:Nat} (hg:g∈D\/w0.heap.size<=g) (a0 a1 a2 a3:Value):ah w0 ((((w.setCell ⟨g,0,none⟩ a0).setCell ⟨g,1,none⟩ a1).setCell ⟨g,2,none⟩ a2).setCell ⟨g,3,none⟩ a3) D:=(((h.setCell ⟨g,0,none⟩ a0 hg).setCell ⟨g,1,none⟩ a1 hg).setCell ⟨g,2,none⟩ a2 hg).setCell ⟨g,3,none⟩ a3 hg
end

section
open Go Go.RowKit Go.Deep Go.Maps Go.Shelf Ab Xi
theorem adp {n m:Nat} (h:bQ n = bQ m):n = m:=by
 unfold bQ at h;have:=Int.eq_of_mul_eq_mul_right (by have:=Hw; omega) h;omega
theorem pR.inj {w:World} {d n m:Nat} {G G':List Nat} (h:pR w d n G) (h':pR w d m G'):n = m:=by
 obtain ⟨c,x,s,ran,F,I,h,_⟩:=h;obtain ⟨a1,a2,a3,a4,a5,n1,c1,n2,c2,n3,c3,n4,c4,n5,c5,h1,_⟩:=h.ex;obtain ⟨c',x',s',ran',F',I',h',_⟩:=h';obtain ⟨a1',a2',a3',a4',a5',n1',c1',n2',c2',n3',c3',n4',c4',n5',c5',h1',_⟩:=h'.ex;have z:=h1.cell' (i:=14) rfl;have z':=h1'.cell' (i:=14) rfl;refine adp ?_;generalize bQ n = p at *;generalize bQ m = q at *;rw [z] at z';injection z' with z';injection z' with _ z'
def Far (b:Nat) (X:List Nat) (w w':World):Prop:=∃ D,ah w w' D/\∀ k∈D,(b<=k/\k∉X)/\jB w k
section
variable {b B:Nat} {X K:List Nat} {w0 w w1 w2:World}
theorem Far.of (hc:ah w w1 []):Far b X w w1:=⟨[],hc,by simp⟩
theorem Far.trans (h:Far b X w w1) (h':Far b X w1 w2):Far b X w w2:=by
 obtain ⟨D,hc,hD⟩:=h;obtain ⟨D',hc',hD'⟩:=h';refine ⟨D ++ D'.filter (fun k => decide (k < w.heap.size)),(hc.more (fun k hk => .inl (by simp [hk]))).trans hc' (fun k hk => ?_),fun k hk => ?_⟩
 . by_cases hl:k < w.heap.size
   . exact .inl (by simp [hk,hl])
   . exact .inr (by omega)
 . rcases List.mem_append.1 hk with hk | hk
   . exact hD k hk
   . obtain ⟨hk,hl⟩:=List.mem_filter.1 hk
     have hl:=of_decide_eq_true hl;refine ⟨(hD' k hk).1,?_⟩;by_cases hm:k∈D
     . exact (hD k hm).2
     . obtain ⟨cs,t,fr,h1⟩:=(hD' k hk).2
       exact ⟨cs,t,fr,(hc.block k hl hm).symm.trans h1⟩
theorem Far.keeps (h:Far b X w w1):KeepsFrom B w w1:=by
 obtain ⟨D,hc,hD⟩:=h;exact yR hc (fun k hk => (hD k hk).2)
theorem Far.blk (h:Far b X w w1) {g:Nat} {t:TypeId} {cs:List Value} (hb:aA w g t cs) (hg:g < b\/g∈X):aA w1 g t cs:=by
 obtain ⟨D,hc,hD⟩:=h;refine hb.aj hc (fun hm => ?_);have:=(hD g hm).1;rcases hg with hg | hg
 . omega
 . exact this.2 hg
theorem Far.ks (h:Far b X w w1) (hK:∀ k∈K,k < b\/k∈X):KS K w w1:=by
 obtain ⟨D,hc,hD⟩:=h;refine KS.aj hc (fun k hk hm => ?_);have:=(hD k hm).1;rcases hK k hk with hg | hg
 . omega
 . exact this.2 hg
theorem Far.aV (h:Far b X w w1) (h0:ah w0 w []) (hb:w0.heap.size<=b):ah w0 w1 []:=by
 obtain ⟨D,hc,hD⟩:=h;exact h0.trans hc (fun k hk => .inr (Nat.le_trans hb (hD k hk).1.1))
end
def AuI (w:World) (s d1 d2 b:Nat) (ds:List bg) (pre:List Nat) (W:World):Prop :=
 aA W w.heap.size 39 (GK false false 0 0)/\aA W (w.heap.size + 1) 39 (GK false false (-1) 0)/\aA W s 26 [.pointer (some ⟨d1,0,none⟩)]/\aA W (s + 1) 26 [.pointer (some ⟨d2,0,none⟩)]/\aA W (s + 2) 3 [.int .i64 (pre.length:Int)]/\Two W d1 d2 (sF ds pre) (sF ds pre) b [s,s + 1,s + 2,s + 3,s + 4]/\ah w W []/\w.heap.size + 2<=b/\b<=s
theorem xJ {B:Nat} {X:World} {row:Option Nat} (hr:∀ r,row = some r->B<=r/\∃ o:Obj,X.heap[r]? = some o/\o.isCells = false) {k:Nat} (h:jB X k):k∉row.toList:=fun hm => by
 obtain ⟨_,o,ho,hc⟩:=hr k (by simpa using hm);obtain ⟨cs,t,fr,h⟩:=h;rw [h] at ho;cases ho;simp [Obj.isCells] at hc
theorem Two.grow {w w':World} {d1 d2 n1 n2 b B:Nat} {X:List Nat} (h:Two w d1 d2 n1 n2 b X) {row:Option Nat} (hg:w.grownBy w' row) (hr:∀ r,row = some r->B<=r/\∃ o:Obj,w.heap[r]? = some o/\o.isCells = false) (hQ:11<=B):Two w' d1 d2 n1 n2 b X :=
 h.aj (ah.dA (D:=row.toList) hg (fun k hk => .inl (by simp [hk]))) (fun k hk => ⟨.inr (.inr (.inr fun hc => xJ hr hc hk)),Nat.le_trans hQ (hr k (by simpa using hk)).1⟩)
theorem AuI.own {β:Type} {w:World} {s d1 d2 b B:Nat} {ds:List bg} (g:β->List Nat) (hB:w.heap.size<=B) (hQ:11<=B):OwnFrom B (fun x W => AuI w s d1 d2 b ds (g x) W):=fun x X Y row h hg hr => by
 obtain ⟨h1,h2,h3,h4,h5,h6,h7,h8⟩:=h;have hc:ah X Y row.toList:=ah.dA hg (fun k hk => .inl (by simp [hk]));exact ⟨h1.aj hc (xJ hr ⟨_,_,_,h1⟩),h2.aj hc (xJ hr ⟨_,_,_,h2⟩),h3.aj hc (xJ hr ⟨_,_,_,h3⟩),h4.aj hc (xJ hr ⟨_,_,_,h4⟩),h5.aj hc (xJ hr ⟨_,_,_,h5⟩),h6.grow hg hr hQ,h7.trans hc (fun k hk => .inr (by have:=(hr k (by simpa using hk)).1; omega)),h8⟩
theorem adr {w W:World} {D:Nat} {s m:Bool} {f c:Int} {ts:Array Value} {R:Ending->World->Prop} (h4:ts.getD 4 undef = .pointer (some ⟨w.heap.size,0,none⟩)) (h5:ts.getD 5 undef = .int .i64 0) (hc:ah w W []) (hD:w.heap.size < D) (hb:aA W w.heap.size 39 (GK s m f c)) (hK:W.heap[D]? = some (.deferred (some []))) (hR:∀ w',ah w w' []->R (.returned (.tuple #[Ld s m f c,.int .i64 0])) w') :
 bodyPostM Fence.wide 6 Tryz.prog Tryz.f12 R .ret { tmps:=ts,defers:=[{ target:=.collected D,args:=#[] }] } W:=by
 have hp:aA (W.putObj D (.deferred none)) w.heap.size 39 (GK s m f c):=(World.putObj_heap_other (by omega)).trans hb;refine ⟨by simp,.inl ⟨_,_,rfl,run_takeDeferred hK,?_⟩⟩;refine ⟨_,KU rfl _ _ _ h4 (ado hp),?_⟩;rw [h5];exact hR _ (hc.trans (ah.dA (D:=[D]) (grownBy_putObj' _ D (.deferred none)) (fun k e => by cases e; exact .inl (by simp))) (fun k hk => .inr (by simp at hk; omega)))
end

section
open Go Go.RowKit Go.Deep Go.Maps Go.Shelf Ab Xi
attribute [local go_sem] Oper.semAt_some
def wC (d1 d2:Nat) (f:Bool) (E:Option Addr) (l cE:Nat) (f':Bool) (E':Option Addr) (l' cE':Nat) (γ:Value × Value):Nat->Value
 | 0 => .pointer (some ⟨d1,0,none⟩)
 | 1 => .agg #[.bool f,.slice E l cE]
 | 2 => γ.1
 | 3 => .pointer (some ⟨d2,0,none⟩)
 | 4 => .agg #[.bool f',.slice E' l' cE']
 | 5 => γ.2
 | 6 => .int .i64 (-1)
 | 7 => .bool false
 | 8 => .bool false
 | 12 => .bool false
 | _ => undef
theorem aoL (d1 d2:Nat) (f:Bool) (E:Option Addr) (l cE:Nat) (f':Bool) (E':Option Addr) (l' cE':Nat) (γ:Value × Value) (v:Value):∀ j,j∉([2]:List Nat)->wC d1 d2 f E l cE f' E' l' cE' (v,γ.2) j = wC d1 d2 f E l cE f' E' l' cE' γ j:=fun j hj => by
 match j,hj with
 | 0,_ => rfl
 | 1,_ => rfl
 | 2,hj => exact absurd (by decide) hj
 | 3,_ => rfl
 | 4,_ => rfl
 | 5,_ => rfl
 | 6,_ => rfl
 | 7,_ => rfl
 | 8,_ => rfl
 | 9,_ => rfl
 | 10,_ => rfl
 | 11,_ => rfl
 | 12,_ => rfl
 | _ + 13,_ => rfl
theorem aoM (d1 d2:Nat) (f:Bool) (E:Option Addr) (l cE:Nat) (f':Bool) (E':Option Addr) (l' cE':Nat) (γ:Value × Value) (v:Value):∀ j,j∉([5]:List Nat)->wC d1 d2 f E l cE f' E' l' cE' (γ.1,v) j = wC d1 d2 f E l cE f' E' l' cE' γ j:=fun j hj => by
 match j,hj with
 | 0,_ => rfl
 | 1,_ => rfl
 | 2,_ => rfl
 | 3,_ => rfl
 | 4,_ => rfl
 | 5,hj => exact absurd (by decide) hj
 | 6,_ => rfl
 | 7,_ => rfl
 | 8,_ => rfl
 | 9,_ => rfl
 | 10,_ => rfl
 | 11,_ => rfl
 | 12,_ => rfl
 | _ + 13,_ => rfl
theorem ani (v:Nat->Value) (t0 t1 t2 t3 t4 t5 t6 t7 t8 t9 t10 t11 t12 t13 t14 t15 t16 t17 t18 t19 t20 t21 t22 t23 t24 t25 t26 t27 t28 t29 t30 t31 t32 t33 t34 t35 t36 t37 t38 t39 t40 t41 t42 t43 t44 t45 t46 t47 t48 t49 t50 t51 t52 t53 t54 t55 t56 t57 t58 t59:Value):jH v (some 34 :: some 35 :: some 36 :: some 37 :: some 38 :: some 39 :: some 40 :: some 41 :: some 42 :: some 43 :: some 44 :: some 45 :: some 46 :: []) 0 (t0 :: t1 :: t2 :: t3 :: t4 :: t5 :: t6 :: t7 :: t8 :: t9 :: t10 :: t11 :: t12 :: t13 :: t14 :: t15 :: t16 :: t17 :: t18 :: t19 :: t20 :: t21 :: t22 :: t23 :: t24 :: t25 :: t26 :: t27 :: t28 :: t29 :: t30 :: t31 :: t32 :: t33 :: t34 :: t35 :: t36 :: t37 :: t38 :: t39 :: t40 :: t41 :: t42 :: t43 :: t44 :: t45 :: t46 :: t47 :: t48 :: t49 :: t50 :: t51 :: t52 :: t53 :: t54 :: t55 :: t56 :: t57 :: t58 :: t59 :: []) = (t0 :: t1 :: t2 :: t3 :: t4 :: t5 :: t6 :: t7 :: t8 :: t9 :: t10 :: t11 :: t12 :: t13 :: t14 :: t15 :: t16 :: t17 :: t18 :: t19 :: t20 :: t21 :: t22 :: t23 :: t24 :: t25 :: t26 :: t27 :: t28 :: t29 :: t30 :: t31 :: t32 :: t33 :: v 0 :: v 1 :: v 2 :: v 3 :: v 4 :: v 5 :: v 6 :: v 7 :: v 8 :: v 9 :: v 10 :: v 11 :: v 12 :: t47 :: t48 :: t49 :: t50 :: t51 :: t52 :: t53 :: t54 :: t55 :: t56 :: t57 :: t58 :: t59 :: []):=by kernel_rfl
def H7 (g d1:Nat) (κ:Int):Nat->Value
 | 0 => .pointer (some ⟨g,2,none⟩)
 | 1 => .int .i64 (-1)
 | 2 => .bool true
 | 3 => .pointer (some ⟨d1,0,none⟩)
 | 4 => .int .i64 κ
 | 5 => .pointer (some ⟨g,0,none⟩)
 | 7 => .pointer (some ⟨g,1,none⟩)
 | 9 => .pointer (some ⟨g,3,none⟩)
 | _ => undef
theorem anj (v:Nat->Value) (t0 t1 t2 t3 t4 t5 t6 t7 t8 t9 t10 t11 t12 t13 t14 t15 t16 t17 t18 t19 t20 t21 t22 t23 t24 t25 t26 t27 t28 t29 t30 t31 t32 t33 t34 t35 t36 t37 t38 t39 t40 t41 t42 t43 t44 t45 t46 t47 t48 t49 t50 t51 t52 t53 t54 t55 t56 t57 t58 t59:Value):jH v (some 51 :: some 52 :: some 53 :: some 54 :: some 55 :: some 56 :: none :: some 57 :: none :: some 58 :: none :: []) 0 (t0 :: t1 :: t2 :: t3 :: t4 :: t5 :: t6 :: t7 :: t8 :: t9 :: t10 :: t11 :: t12 :: t13 :: t14 :: t15 :: t16 :: t17 :: t18 :: t19 :: t20 :: t21 :: t22 :: t23 :: t24 :: t25 :: t26 :: t27 :: t28 :: t29 :: t30 :: t31 :: t32 :: t33 :: t34 :: t35 :: t36 :: t37 :: t38 :: t39 :: t40 :: t41 :: t42 :: t43 :: t44 :: t45 :: t46 :: t47 :: t48 :: t49 :: t50 :: t51 :: t52 :: t53 :: t54 :: t55 :: t56 :: t57 :: t58 :: t59 :: []) = (t0 :: t1 :: t2 :: t3 :: t4 :: t5 :: t6 :: t7 :: t8 :: t9 :: t10 :: t11 :: t12 :: t13 :: t14 :: t15 :: t16 :: t17 :: t18 :: t19 :: t20 :: t21 :: t22 :: t23 :: t24 :: t25 :: t26 :: t27 :: t28 :: t29 :: t30 :: t31 :: t32 :: t33 :: t34 :: t35 :: t36 :: t37 :: t38 :: t39 :: t40 :: t41 :: t42 :: t43 :: t44 :: t45 :: t46 :: t47 :: t48 :: t49 :: t50 :: v 0 :: v 1 :: v 2 :: v 3 :: v 4 :: v 5 :: v 7 :: v 9 :: t59 :: []):=by kernel_rfl
def wE (b:Nat) (X:List Nat) (d1 d2 n1 n2 r1 r2:Nat) (wr:World) (γ:Value × Value):Bool->Bool->World->Prop
 | false,_,w' => w' = wr.drew
 | true,false,w' => Far b X wr w'/\aam w' d1 d2 (n1 + r1) n2 b X wr.heap.size/\MV r1 wr.heap.size γ.1 w'
 | true,true,w' => Far b X wr w'/\Two w' d1 d2 (n1 + r1) (n2 + r2) b X/\MV r1 wr.heap.size γ.1 w'/\∃ q,MV r2 q γ.2 w'
theorem wE.far {b:Nat} {X:List Nat} {d1 d2 n1 n2 r1 r2:Nat} {wr w':World} {γ:Value × Value}:∀ {p q:Bool},wE b X d1 d2 n1 n2 r1 r2 wr γ p q w'->Far b X wr w'
 | false,_,h => by obtain rfl:w' = wr.drew:=h; exact .of (ah.refl wr []).drew
 | true,false,h => h.1
 | true,true,h => h.1
def yT (g:Nat) (W:World) (κ:Int) (a b c:Bool) (w':World):Prop:=aA w' g 39 (GK a b (-1) (bif c then κ else 0))/\ah W w' [g]
theorem af_ {w:World} (hg:jw w) {A A':Option Addr} {c c':Nat} {ds es:List bg} {vs us:Nat->Value} (h:qJ w A ds vs) (h':qJ w A' es us) (hln:∀ d∈ds,d.2.length<=maxLen/\∀ y∈d.2,y < 256) (hln':∀ d∈es,d.2.length<=maxLen/\∀ y∈d.2,y < 256) (hl:ds.length < 100) (hs:lg ds es = true) :
 Calls Tryz.prog 12 #[.slice A ds.length c,.slice A' es.length c'] w fun e w' => e = .returned (.tuple #[Ld true true (-1) (bQ (bV ds)),.int .i64 0])/\ah w w' []:=by
 have dI:Tryz.prog.follows .mixedOrders = true:=by kernel_rfl
 have hQ0:11<=w.heap.size:=hg.size
 have hle:es.length = ds.length:=by
  have:=congrArg List.length (of_decide_eq_true hs)
  simpa using this.symm
 have HLE:=hide hle;have hl':es.length < 100:=by omega
 clear hle;have hc1:=(ah.refl w []).alloc (.cells #[.bool false,.bool false,.int .i64 0,.int .i64 0] 39);have hc:=hc1.alloc (.cells #[.bool false,.bool false,.int .i64 (-1),.int .i64 0] 39);have b0:=(aA.new w 39 [.bool false,.bool false,.int .i64 0,.int .i64 0]).alloc (.cells #[.bool false,.bool false,.int .i64 (-1),.int .i64 0] 39);have b1:=aA.new (w.alloc (.cells #[.bool false,.bool false,.int .i64 0,.int .i64 0] 39)) 39 [.bool false,.bool false,.int .i64 (-1),.int .i64 0];rw [size_alloc] at b1;have hsc:=VY (c:=c) (c':=c') (h.keep hc) (h'.keep hc) (by unfold maxLen; omega) (by unfold maxLen; omega);rw [hs] at hsc;have H:=hide h;have H':=hide h';have HS:=hide hs;have HG:=hide hg;have HLN:=hide hln;have U1:=hide hln';clear h h' hs hg hln hln';refine (callsIn_wide (n:=6)).1 ?_;refine callsIn_of_wp_marks Tryz.func12 rfl trivial ?_ rfl;simp only [Tryz.ntmps12,List.size_toArray,List.length_cons,List.length_nil,Nat.reduceAdd,Nat.reduceSub,Array.replicate_succ,Array.replicate_zero,List.push_toArray,List.append_toArray,List.nil_append,List.cons_append]
 gi_wp2_with fail
 refine ⟨trivial,?_⟩;refine (callsIn_wide.2 hsc).mono ?_;rintro e w2 ⟨rfl,hc2⟩;have B0:=hide (b0.aj hc2 (by simp));have B1:=hide (b1.aj hc2 (by simp));have HC2:=hide (hc.trans hc2 (D:=[]) (by simp));clear hsc hc hc1 hc2 b0 b1;have hnw:=sD w2 (HG.out.aj HC2.out (by simp))
 gi_wp2_with fail
 refine ⟨trivial,?_⟩;refine (callsIn_wide.2 hnw).mono ?_;rintro e w3 ⟨d1,e1,F1,I1,rfl,hc3,hd1,hf1⟩;have fU:=hide hc3;have HD1:=hide hd1;have iM:=hide hf1;have ank:=sD w3 ((HG.out.aj HC2.out (by simp)).aj hc3 (by simp));clear hnw hc3 hd1 hf1
 gi_wp2_with fail
 refine ⟨trivial,?_⟩;refine (callsIn_wide.2 ank).mono ?_;rintro e w4 ⟨d2,e2,F2,I2,rfl,hc4,hd2,hf2⟩;have ig:=hide hc4;have HD2:=hide hd2;have HF2:=hide hf2;clear ank hc4 hd2 hf2
 gi_wp2_with fail
 refine ⟨trivial,?_⟩;refine (callsIn_wide.2 (Hz _ _ _ _ _ _ _)).mono ?_;rintro e w5 ⟨rfl,hw5⟩;have hs2:w.heap.size + 2<=w2.heap.size:=by have h0:=B1.out.lt; omega
 have hs3:=fU.out.size;have hs4:=ig.out.size;have zM:Two w4 d1 d2 0 0 w2.heap.size []:=⟨_,_,⟨e1,st0,iD,false,F1,I1,HD1.out.aV ig.out,rfl⟩,⟨e2,st0,iD,false,F2,I2,HD2.out,rfl⟩,fun k hk => ⟨fun hm => by have h1:=HD1.out.low k hk; have h2:=HF2.out k hm; omega,iM.out k hk,by simp⟩,fun k hk => ⟨Nat.le_trans hs3 (HF2.out k hk),by simp⟩,by omega,by omega,by simp⟩
 have hc5:=(((((ah.refl w4 []).alloc (.cells #[.pointer (some ⟨d1,0,none⟩)] 26)).alloc (.cells #[.pointer (some ⟨d2,0,none⟩)] 26)).alloc (.cells #[.int .i64 0] 3)).alloc (.cells #[.slice A ds.length c] 22)).alloc (.cells #[.slice A' es.length c'] 22);have q7:=((((aA.new w4 26 [.pointer (some ⟨d1,0,none⟩)]).alloc (.cells #[.pointer (some ⟨d2,0,none⟩)] 26)).alloc (.cells #[.int .i64 0] 3)).alloc (.cells #[.slice A ds.length c] 22)).alloc (.cells #[.slice A' es.length c'] 22);have q8:=(((aA.new (w4.alloc (.cells #[.pointer (some ⟨d1,0,none⟩)] 26)) 26 [.pointer (some ⟨d2,0,none⟩)]).alloc (.cells #[.int .i64 0] 3)).alloc (.cells #[.slice A ds.length c] 22)).alloc (.cells #[.slice A' es.length c'] 22);have q9:=((aA.new ((w4.alloc (.cells #[.pointer (some ⟨d1,0,none⟩)] 26)).alloc (.cells #[.pointer (some ⟨d2,0,none⟩)] 26)) 3 [.int .i64 0]).alloc (.cells #[.slice A ds.length c] 22)).alloc (.cells #[.slice A' es.length c'] 22);have p0:=(aA.new (((w4.alloc (.cells #[.pointer (some ⟨d1,0,none⟩)] 26)).alloc (.cells #[.pointer (some ⟨d2,0,none⟩)] 26)).alloc (.cells #[.int .i64 0] 3)) 22 [.slice A ds.length c]).alloc (.cells #[.slice A' es.length c'] 22);have p1:=aA.new ((((w4.alloc (.cells #[.pointer (some ⟨d1,0,none⟩)] 26)).alloc (.cells #[.pointer (some ⟨d2,0,none⟩)] 26)).alloc (.cells #[.int .i64 0] 3)).alloc (.cells #[.slice A ds.length c] 22)) 22 [.slice A' es.length c'];have aga:w5 = ((((w4.alloc (.cells #[.pointer (some ⟨d1,0,none⟩)] 26)).alloc (.cells #[.pointer (some ⟨d2,0,none⟩)] 26)).alloc (.cells #[.int .i64 0] 3)).alloc (.cells #[.slice A ds.length c] 22)).alloc (.cells #[.slice A' es.length c'] 22):=hw5;rw [<- aga] at hc5 q7 q8 q9 p0 p1;have hs5:w5.heap.size = w4.heap.size + 5:=by rw [aga]; simp
 clear hw5 aga;simp only [size_alloc] at q7 q8 q9 p0 p1 ⊢;have gK:=hide (((HC2.out.trans fU.out (D:=[]) (by simp)).trans ig.out (by simp)).trans hc5 (by simp));have BB0:=hide (((B0.out.aj fU.out (by simp)).aj ig.out (by simp)).aj hc5 (by simp));have BB1:=hide (((B1.out.aj fU.out (by simp)).aj ig.out (by simp)).aj hc5 (by simp));have OM:=zM.new hc5 [w4.heap.size,w4.heap.size + 1,w4.heap.size + 2,w4.heap.size + 3,w4.heap.size + 4] (by intro k hk; simp only [List.mem_cons,List.not_mem_nil,or_false] at hk; omega);have HP0:=hide p0;have cO:=hide p1;have HI:=hide (show AuI w w4.heap.size d1 d2 w2.heap.size ds [] w5 from ⟨BB0.out,BB1.out,q7,q8,q9,OM,gK.out,hs2,by omega⟩);clear hc5 q7 q8 q9 p0 p1 zM OM BB0 BB1 B0 B1 HC2 fU ig HD1 HD2 iM HF2;generalize hsE:w4.heap.size = s at *;generalize hbE:w2.heap.size = b at *;clear hsE
 gi_wp2_with fail
 refine wpIn_rangeFunc_ownH rfl (by decide) (gf:=59) (lb:=#[.pointer (some ⟨s + 1 + 1 + 1,0,none⟩),.pointer (some ⟨s + 1 + 1 + 1 + 1,0,none⟩)]) rfl trivial (enters_of Tryz.func59 (by kernel_rfl) rfl)
  (pairs_stops (6 - 1) (by decide) (s + 3) (s + 4) (HP0.out.cell' (i:=0) rfl) (cO.out.cell' (i:=0) rfl) (H.out.keep gK.out) (H'.out.keep gK.out) ((s + 3) :: (s + 4) :: List.range w.heap.size) (by simp) (by simp) ?kA ?kB (by unfold maxLen; omega) (by unfold maxLen; omega)) KS.trans (fun W l o o' hl h0 hc hw => KS.putObj W l o o' h0 hc) (Below.refl _ _) (fun _ => rfl)
  (fun (pre:List (Fin (min ds.length es.length))) W => AuI w s d1 d2 b ds (pre.map (·.val)) W)
  (fun _ _ _ => False)
  (AuI.own (fun (pre:List (Fin (min ds.length es.length))) => pre.map (·.val)) (by omega) (by omega))
  (fun _ _ _ _ _ hs _ _ => hs)
  HI.out
  (fun x a' W => ∃ B1 B2 n1 n2,s + 4 < B1/\s + 4 < B2/\B1≠B2/\Two W d1 d2 n1 n2 b (B1 :: B2 :: [s,s + 1,s + 2,s + 3,s + 4])/\aA W B1 30 [.bool (ds[x.val]'(by omega)).1,vs x.val]/\aA W B2 30 [.bool (es[x.val]'(by omega)).1,us x.val]/\a' = { tmps:=#[.slice A ds.length c,.slice A' es.length c',undef,undef,.pointer (some ⟨w.heap.size,0,none⟩),.int .i64 0,.pointer (some ⟨w.heap.size + 1,0,none⟩),.pointer (some ⟨s,0,none⟩),.pointer (some ⟨s + 1,0,none⟩),.pointer (some ⟨s + 1 + 1,0,none⟩),.pointer (some ⟨B1,0,none⟩),.pointer (some ⟨B2,0,none⟩),.slice A ds.length c,.int .i64 (ds.length:Int),.bool (decide ((1000:Int) < (ds.length:Int))),.bool (decide ((1000:Int) < (ds.length:Int))),.slice A' es.length c',.int .i64 (es.length:Int),.bool (decide ((1000:Int) < (es.length:Int))),.bool (decide ((1000:Int) < (ds.length:Int)) || decide ((1000:Int) < (es.length:Int))),undef,.agg #[.bool false,.bool false,.int .i64 (-1),.int .i64 0],.slice A ds.length c,.slice A' es.length c',.bool true,.bool false,undef,.pointer (some ⟨d1,0,none⟩),.pointer (some ⟨d2,0,none⟩),.slice A ds.length c,.slice A' es.length c',.func (.func 59) #[] #[.pointer (some ⟨s + 1 + 1 + 1,0,none⟩),.pointer (some ⟨s + 1 + 1 + 1 + 1,0,none⟩)],(.agg #[.bool (ds[x.val]'(by omega)).1,vs x.val]),(.agg #[.bool (es[x.val]'(by omega)).1,us x.val]),undef,undef,undef,undef,undef,undef,undef,undef,undef,undef,undef,undef,undef,undef,undef,undef,undef,undef,undef,undef,undef,undef,undef,undef,undef,undef],defers:=[] })
  (fun x a' _ X Y row hs hg hr => by
    obtain ⟨B1,B2,n1,n2,h1,h2,h3,h4,h5,h6,h7⟩:=hs
    exact ⟨B1,B2,n1,n2,h1,h2,h3,h4.grow hg hr (by omega),uD B1 _ (fun (_:Unit) => _) () X Y row h5 hg (fun r e => (hr r e).2),uD B2 _ (fun (_:Unit) => _) () X Y row h6 hg (fun r e => (hr r e).2),h7⟩)
  ?assign ?body ?done ?stop
 case kA =>
  rintro h0 b o rfl;obtain ⟨b',o',e,hx⟩:=H.out h0;injection e with e; injection e with e1 e2;subst e1;have:=World.block_lt_of_cell? w _ (hx 0 (ds[0]'h0) (by simp)).1;simp only at this;simp only [List.mem_cons,List.mem_range];exact .inr (.inr this)
 case kB =>
  rintro h0 b o rfl;obtain ⟨b',o',e,hx⟩:=H'.out h0;injection e with e; injection e with e1 e2;subst e1;have:=World.block_lt_of_cell? w _ (hx 0 (es[0]'h0) (by simp)).1;simp only at this;simp only [List.mem_cons,List.mem_range];exact .inr (.inr this)
 case assign =>
  rintro l pre x W K hI hK;have hxl:=x.isLt;have hxd:x.val < ds.length:=by omega
  have hxe:x.val < es.length:=by omega
  obtain ⟨bA,oA,rfl,hxA⟩:=H.out (by omega);obtain ⟨bE,oE,rfl,hxE⟩:=H'.out (by omega);obtain ⟨_,_,⟨E,cE,ev⟩,_⟩:=hxA x.val (ds[x.val]'hxd) (List.getElem?_eq_getElem hxd);obtain ⟨_,_,⟨E',cE',ev'⟩,_⟩:=hxE x.val (es[x.val]'hxe) (List.getElem?_eq_getElem hxe);obtain ⟨i1,i2,i3,i4,i5,i6,i7,i8,i9⟩:=hI
  have hlow:s + 4 < W.heap.size:=by
   obtain ⟨_,_,_,_,_,_,_,_,h7⟩:=i6;exact h7 (s + 4) (by simp)
  unfold aah;simp only [ev,ev'] at hK ⊢;clear hxA hxE;have hK:=hide hK
  gi_wp2
  have z1:=(aA.new W 30 [.bool (ds[x.val]'hxd).1,.slice E (ds[x.val]'hxd).2.length cE]).alloc (.cells #[.bool (es[x.val]'hxe).1,.slice E' (es[x.val]'hxe).2.length cE'] 30);have z2:=aA.new (W.alloc (.cells #[.bool (ds[x.val]'hxd).1,.slice E (ds[x.val]'hxd).2.length cE] 30)) 30 [.bool (es[x.val]'hxe).1,.slice E' (es[x.val]'hxe).2.length cE'];have hcn:=((ah.refl W []).alloc (.cells #[.bool (ds[x.val]'hxd).1,.slice E (ds[x.val]'hxd).2.length cE] 30)).alloc (.cells #[.bool (es[x.val]'hxe).1,.slice E' (es[x.val]'hxe).2.length cE'] 30);simp only [size_alloc] at z2;refine hK.out _ _ (vW hcn) (KS.aj hcn (by simp)) ⟨i1.aj hcn (by simp),i2.aj hcn (by simp),i3.aj hcn (by simp),i4.aj hcn (by simp),i5.aj hcn (by simp),i6.aV hcn,i7.trans hcn (by simp),i8,i9⟩ ⟨W.heap.size,W.heap.size + 1,_,_,hlow,by omega,by omega,i6.new hcn [W.heap.size,W.heap.size + 1] (by intro k hk; simp only [List.mem_cons,List.not_mem_nil,or_false] at hk; simp only [size_alloc]; omega),z1,z2,rfl⟩
 case body =>
  rintro l pre x a' W hl0 ⟨r,hr⟩ hI ⟨B1,B2,n1,n2,h1,h2,h3,ht,x1,x2,rfl⟩ hlt;obtain ⟨i1,i2,i3,i4,i5,i6,i7,i8,i9⟩:=hI
  have hn1:n1 = sF ds (pre.map (·.val)):=by
   obtain ⟨_,_,g1,_⟩:=ht;obtain ⟨_,_,g1',_⟩:=i6;exact g1.inj g1'
  have hn2:n2 = sF ds (pre.map (·.val)):=by
   obtain ⟨_,_,_,g1,_⟩:=ht;obtain ⟨_,_,_,g1',_⟩:=i6;exact g1.inj g1'
  subst hn2;rw [hn1] at ht;clear hn1;have hxl:=x.isLt;have hxd:x.val < ds.length:=by omega
  have hxe:x.val < es.length:=by omega
  have hnb:=ajl ds (pre.map (·.val))
  rw [List.length_map] at hnb;obtain ⟨bA,oA,rfl,hxA⟩:=H.out (by omega);obtain ⟨bE,oE,rfl,hxE⟩:=H'.out (by omega);have gd:=List.getElem?_eq_getElem hxd;have ge:=List.getElem?_eq_getElem hxe;obtain ⟨_,_,⟨E,cE,ev⟩,slE⟩:=hxA x.val (ds[x.val]'hxd) gd;obtain ⟨_,_,⟨E',cE',ev'⟩,slE'⟩:=hxE x.val (es[x.val]'hxe) ge
  have hk:dP (ds[x.val]'hxd) = dP (es[x.val]'hxe):=by
   have hm:=congrArg (fun l:List (Bool × Nat) => l[x.val]?) (of_decide_eq_true HS.out);simp only [List.getElem?_map,gd,ge,Option.map_some] at hm;exact Option.some.inj hm
  have hrk:=adl hk;have hby:=HLN.out _ (List.getElem_mem hxd);have aao:=U1.out _ (List.getElem_mem hxe);rw [ev] at x1 slE ⊢;rw [ev'] at x2 slE' ⊢;have hsn:=OL ds (pre.map (·.val)) gd
  clear hxA hxE ev ev' hk;generalize ds[x.val]'hxd = dd at *;generalize es[x.val]'hxe = ee at *;obtain ⟨f,dl⟩:=dd;obtain ⟨f',el⟩:=ee;simp only at x1 x2 slE slE' hby aao ⊢;have HX:=hide (show dl.length<=maxLen/\(∀ y∈dl,y < 256)/\Sl w (.slice E dl.length cE) (bU dl) from ⟨hby.1,hby.2,slE⟩);have HY:=hide (show el.length<=maxLen/\(∀ y∈el,y < 256)/\Sl w (.slice E' el.length cE') (bU el) from ⟨aao.1,aao.2,slE'⟩);have hcount:sF ds ((pre ++ [x]).map (·.val)) = sF ds (pre.map (·.val)) + bZ (f,dl):=by rw [List.map_append]; exact hsn
  obtain ⟨N,hN⟩:∃ N,sF ds (pre.map (·.val)) = N:=⟨_,rfl⟩
  rw [hN] at hcount ht i6 hnb;have HN:=hide (show N < 100 by omega);have HR:=hide hrk;have J6:=hide hcount;have X1:=hide x1;have X2:=hide x2;have Q7:=hide i3;have Q8:=hide i4;have Q9:=hide i5;have TW:=hide ht;have OO:=hide i7;have HGW:=hide (HG.out.aj i7 (by simp));have I1:=hide i1;have I2:=hide i2;have hlb:pre.length < 100:=by omega
  clear hcount hrk hsn gd ge hby aao slE slE' x1 x2 i1 i2 i3 i4 i5 i6 i7 hxl hxd hxe ht HI HP0 cO hN hnb hr hl0 hlt
  gi_wp2_with fail
  refine Fb (F:=Fence.wide.inRound l) (fun _ => trivial) dI _ _ (fun (γ:Value × Value) => wC d1 d2 f E dl.length cE f' E' el.length cE' γ) (fun (γ:Value × Value) L w' => wE b [B1,B2,s,s + 1,s + 2,s + 3,s + 4] d1 d2 N N (bZ (f,dl)) (bZ (f',el)) W γ (L 2) (L 5) w') (undef,undef) (by kernel_rfl) [(8,false)] (by kernel_rfl) (fun p hp γ => by obtain rfl:p = (8,false):=(by simpa using hp); rfl) (by kernel_rfl) ?step ?skip ?start ?fin ?ext
  case start => rfl
  case ext =>
   intro γ L L' w' h hw;have hw':wE b [B1,B2,s,s + 1,s + 2,s + 3,s + 4] d1 d2 N N (bZ (f,dl)) (bZ (f',el)) W γ (L 2) (L 5) w':=hw;rw [h 2 (by decide),h 5 (by decide)] at hw';exact hw'
  case skip =>
   intro i_ o_ ho_ hw γ
   match i_,ho_,hw with
   | 0,ho,hw => injection ho with ho; subst ho; cases hw
   | 1,ho,hw => injection ho with ho; subst ho; cases hw
   | 2,ho,hw => injection ho with ho; subst ho; cases hw
   | 3,ho,hw => injection ho with ho; subst ho; cases hw
   | 4,ho,hw => injection ho with ho; subst ho; cases hw
   | 5,ho,hw => injection ho with ho; subst ho; cases hw
   | 6,ho,hw => injection ho with ho; subst ho; cases hw
   | 7,ho,hw => injection ho with ho; subst ho; cases hw
   | 8,ho,hw => injection ho with ho; subst ho; cases hw
   | 9,ho,hw => exact ⟨rfl,fun L w' h => h⟩
   | 10,ho,hw => exact ⟨rfl,fun L w' h => h⟩
   | 11,ho,hw => exact ⟨rfl,fun L w' h => h⟩
   | 12,ho,hw => injection ho with ho; subst ho; cases hw
   | _ + 13,ho,_ => cases ho
  case step =>
   intro i_ o_ ho_ hwt L av w1 γ hdn ak hW hL hpre K' Q' hK;have hW:wE b [B1,B2,s,s + 1,s + 2,s + 3,s + 4] d1 d2 N N (bZ (f,dl)) (bZ (f',el)) W γ (L 2) (L 5) w1:=hW
   match i_,ho_,hwt with
    | 0,ho,hw =>
     injection ho with ho; subst ho;have b7:av.tmps.getD 7 undef = .pointer (some ⟨s,0,none⟩):=dH ak 7 (by kernel_rfl);clear ak;have hb:=hW.far.blk Q7.out (.inr (by simp));have y0:=hb.cell' (i:=0) rfl;refine qj (v:=.pointer (some ⟨d1,0,none⟩)) (w':=w1) (fun _ h => by cases h) ?_ (hK γ w1 (fun _ _ => rfl) (show wE b [B1,B2,s,s + 1,s + 2,s + 3,s + 4] d1 d2 N N (bZ (f,dl)) (bZ (f',el)) W γ (if (2:Nat) = 0 then true else L 2) (if (5:Nat) = 0 then true else L 5) _ from by rw [if_neg (by decide),if_neg (by decide)]; exact hW));go_simp
    | 1,ho,hw =>
     injection ho with ho; subst ho;have b10:av.tmps.getD 10 undef = .pointer (some ⟨B1,0,none⟩):=dH ak 10 (by kernel_rfl);clear ak;have hb:=hW.far.blk X1.out (.inr (by simp));have y0:=hb.cell' (i:=0) rfl;have y1:=hb.cell' (i:=1) rfl;refine qj (v:=.agg #[.bool f,.slice E dl.length cE]) (w':=w1) (fun _ h => by cases h) ?_ (hK γ w1 (fun _ _ => rfl) (show wE b [B1,B2,s,s + 1,s + 2,s + 3,s + 4] d1 d2 N N (bZ (f,dl)) (bZ (f',el)) W γ (if (2:Nat) = 1 then true else L 2) (if (5:Nat) = 1 then true else L 5) _ from by rw [if_neg (by decide),if_neg (by decide)]; exact hW));go_simp
    | 2,ho,hw =>
     injection ho with ho; subst ho;have s0:=aF ak 34 0 (by kernel_rfl) (hpre ⟨0,.data⟩ (by simp) rfl);simp only [wC] at s0;have s1:=aF ak 35 1 (by kernel_rfl) (hpre ⟨1,.data⟩ (by simp) rfl);simp only [wC] at s1;clear ak
     have h5:L 5 = false:=by
      cases h:L 5 with
      | false => rfl
      | true => (have hx:L 2 = true:=hdn 5 _ rfl h ⟨2,.chain⟩ (by simp) rfl; rw [hL] at hx; cases hx)
     have hW':=hW;rw [hL] at hW';obtain rfl:w1 = W.drew:=hW';have hm:=(TW.out.aV (ah.refl W []).drew).La (dd:=(f,dl)) (HGW.out.aj (ah.refl W []).drew (by simp)) HN.out HX.out.1 HX.out.2.1 (HX.out.2.2.keep OO.out.drew);refine Bq (fun _ h => by cases h) ?_ hm ?_
     . go_simp
     rintro e w2 ⟨v,D,rfl,hc,hD,ht,hmv⟩
     refine ⟨_,rfl,hK (v,γ.2) w2 (fun j hj => aoL _ _ _ _ _ _ _ _ _ _ _ _ j (by
      intro hm;obtain rfl:j = 2:=by simpa using hm
      rw [hL] at hj; cases hj)) (show wE b [B1,B2,s,s + 1,s + 2,s + 3,s + 4] d1 d2 N N (bZ (f,dl)) (bZ (f',el)) W (v,γ.2) (if (2:Nat) = 2 then true else L 2) (if (5:Nat) = 2 then true else L 5) w2 from ?_)⟩
     rw [if_pos rfl,if_neg (by decide),h5];exact ⟨⟨D,ah.Nj hc,fun k hk => ⟨⟨(hD k hk).1.1,(hD k hk).1.2.1⟩,(hD k hk).2⟩⟩,ht,hmv⟩
    | 3,ho,hw =>
     injection ho with ho; subst ho;have b8:av.tmps.getD 8 undef = .pointer (some ⟨s + 1,0,none⟩):=dH ak 8 (by kernel_rfl);clear ak;have hb:=hW.far.blk Q8.out (.inr (by simp));have y0:=hb.cell' (i:=0) rfl;refine qj (v:=.pointer (some ⟨d2,0,none⟩)) (w':=w1) (fun _ h => by cases h) ?_ (hK γ w1 (fun _ _ => rfl) (show wE b [B1,B2,s,s + 1,s + 2,s + 3,s + 4] d1 d2 N N (bZ (f,dl)) (bZ (f',el)) W γ (if (2:Nat) = 3 then true else L 2) (if (5:Nat) = 3 then true else L 5) _ from by rw [if_neg (by decide),if_neg (by decide)]; exact hW));go_simp
    | 4,ho,hw =>
     injection ho with ho; subst ho;have b11:av.tmps.getD 11 undef = .pointer (some ⟨B2,0,none⟩):=dH ak 11 (by kernel_rfl);clear ak;have hb:=hW.far.blk X2.out (.inr (by simp));have y0:=hb.cell' (i:=0) rfl;have y1:=hb.cell' (i:=1) rfl;refine qj (v:=.agg #[.bool f',.slice E' el.length cE']) (w':=w1) (fun _ h => by cases h) ?_ (hK γ w1 (fun _ _ => rfl) (show wE b [B1,B2,s,s + 1,s + 2,s + 3,s + 4] d1 d2 N N (bZ (f,dl)) (bZ (f',el)) W γ (if (2:Nat) = 4 then true else L 2) (if (5:Nat) = 4 then true else L 5) _ from by rw [if_neg (by decide),if_neg (by decide)]; exact hW));go_simp
    | 5,ho,hw =>
     injection ho with ho; subst ho;have s3:=aF ak 37 3 (by kernel_rfl) (hpre ⟨3,.data⟩ (by simp) rfl);simp only [wC] at s3;have s4:=aF ak 38 4 (by kernel_rfl) (hpre ⟨4,.data⟩ (by simp) rfl);simp only [wC] at s4;clear ak;have l2:L 2 = true:=hpre ⟨2,.chain⟩ (by simp) rfl;have hW':=hW;rw [hL,l2] at hW';obtain ⟨hf,ht,hmv⟩:=hW';have hm:=ht.Lc (dd:=(f',el)) (HG.out.aj (hf.aV OO.out (by omega)) (by simp)) HN.out HY.out.1 HY.out.2.1 (HY.out.2.2.keep (hf.aV OO.out (by omega)));refine Bq (fun _ h => by cases h) ?_ hm ?_
     . go_simp
     rintro e w2 ⟨v,D,rfl,hc,hD,ht2,hmv2⟩
     refine ⟨_,rfl,hK (γ.1,v) w2 (fun j hj => aoM _ _ _ _ _ _ _ _ _ _ _ _ j (by
      intro hm;obtain rfl:j = 5:=by simpa using hm
      rw [hL] at hj; cases hj)) (show wE b [B1,B2,s,s + 1,s + 2,s + 3,s + 4] d1 d2 N N (bZ (f,dl)) (bZ (f',el)) W (γ.1,v) (if (2:Nat) = 5 then true else L 2) (if (5:Nat) = 5 then true else L 5) w2 from ?_)⟩
     rw [if_pos rfl,if_neg (by decide),l2];exact ⟨hf.trans ⟨D,hc,fun k hk => ⟨⟨(hD k hk).1.1,(hD k hk).1.2.1⟩,(hD k hk).2⟩⟩,ht2,hmv.aj hc (fun k hk => (hD k hk).1.2.2),_,hmv2⟩
    | 6,ho,hw =>
     injection ho with ho; subst ho;have s2:=aF ak 36 2 (by kernel_rfl) (hpre ⟨2,.data⟩ (by simp) rfl);simp only [wC] at s2;have s5:=aF ak 39 5 (by kernel_rfl) (hpre ⟨5,.data⟩ (by simp) rfl);simp only [wC] at s5;clear ak;have l2:L 2 = true:=hdn 5 _ rfl (hpre ⟨5,.data⟩ (by simp) rfl) ⟨2,.chain⟩ (by simp) rfl;have l5:L 5 = true:=hpre ⟨5,.data⟩ (by simp) rfl;have hW':=hW;rw [l5,l2] at hW';obtain ⟨hf,ht,hmv,q,hmv2⟩:=hW';rw [<- HR.out] at hmv2;have hm:=af8 hmv hmv2;refine Bq (fun _ h => by cases h) ?_ hm ?_
     . go_simp
     rintro e w2 ⟨rfl,hc⟩;refine ⟨_,rfl,hK γ w2 (fun _ _ => rfl) (show wE b [B1,B2,s,s + 1,s + 2,s + 3,s + 4] d1 d2 N N (bZ (f,dl)) (bZ (f',el)) W γ (if (2:Nat) = 6 then true else L 2) (if (5:Nat) = 6 then true else L 5) w2 from ?_)⟩;rw [if_neg (by decide),if_neg (by decide),l2,l5];exact ⟨hf.trans (.of hc),ht.aV hc,hmv.aj hc (by simp),q,by rw [<- HR.out]; exact hmv2.aj hc (by simp)⟩
    | 7,ho,hw =>
     injection ho with ho; subst ho;have s6:=aF ak 40 6 (by kernel_rfl) (hpre ⟨6,.data⟩ (by simp) rfl);simp only [wC] at s6;clear ak;refine qj (v:=.bool false) (w':=w1) (fun _ h => by cases h) ?_ (hK γ w1 (fun _ _ => rfl) (show wE b [B1,B2,s,s + 1,s + 2,s + 3,s + 4] d1 d2 N N (bZ (f,dl)) (bZ (f',el)) W γ (if (2:Nat) = 7 then true else L 2) (if (5:Nat) = 7 then true else L 5) _ from by rw [if_neg (by decide),if_neg (by decide)]; exact hW));go_simp
    | 8,ho,hw =>
     injection ho with ho; subst ho;have s7:=aF ak 41 7 (by kernel_rfl) (hpre ⟨7,.data⟩ (by simp) rfl);simp only [wC] at s7;clear ak;refine qj (v:=.bool false) (w':=w1) (fun _ h => by cases h) ?_ (hK γ w1 (fun _ _ => rfl) (show wE b [B1,B2,s,s + 1,s + 2,s + 3,s + 4] d1 d2 N N (bZ (f,dl)) (bZ (f',el)) W γ (if (2:Nat) = 8 then true else L 2) (if (5:Nat) = 8 then true else L 5) _ from by rw [if_neg (by decide),if_neg (by decide)]; exact hW));go_simp
    | 12,ho,hw =>
     injection ho with ho; subst ho;have s8:=aF ak 42 8 (by kernel_rfl) (hpre ⟨8,.data⟩ (by simp) rfl);simp only [wC] at s8;have s11:=aF ak 45 11 (by kernel_rfl) (hpre ⟨11,.data⟩ (by simp) rfl);simp only [wC] at s11;clear ak;refine qj (v:=.bool false) (w':=w1) (fun _ h => by cases h) ?_ (hK γ w1 (fun _ _ => rfl) (show wE b [B1,B2,s,s + 1,s + 2,s + 3,s + 4] d1 d2 N N (bZ (f,dl)) (bZ (f',el)) W γ (if (2:Nat) = 12 then true else L 2) (if (5:Nat) = 12 then true else L 5) _ from by rw [if_neg (by decide),if_neg (by decide)]; exact hW));go_simp
    | 9,ho,hw => injection ho with ho; subst ho; cases hw
    | 10,ho,hw => injection ho with ho; subst ho; cases hw
    | 11,ho,hw => injection ho with ho; subst ho; cases hw
    | _ + 13,ho,_ => cases ho
  case fin =>
   intro γ w2 hW;have hW:wE b [B1,B2,s,s + 1,s + 2,s + 3,s + 4] d1 d2 N N (bZ (f,dl)) (bZ (f',el)) W γ true true w2:=hW;obtain ⟨hf,ht,_,_,_⟩:=hW;rw [fK,dM,eP];simp only [List.map_cons,List.map_nil];rw [ani];simp only [wC];have k9:=hf.blk Q9.out (.inr (by simp));have y9:=k9.cell' (i:=0) rfl;have f9:=k9.frozen 0;have k9':=k9.aK 0 (.int .i64 ((pre.length:Int) + 1));have HF:=hide hf;have HT:=hide ht;clear hf ht k9
   gi_wp2
   have h9:=(ah.refl w2 [s + 2]).setCell ⟨s + 2,0,none⟩ (.int .i64 ((pre.length:Int) + 1)) (.inl (by simp));have c9:jB w2 (s + 2):=⟨_,_,_,HF.out.blk Q9.out (.inr (by simp))⟩
   refine ⟨HF.out.keeps.trans (yR h9 (fun k hk => by obtain rfl:k = s + 2:=(by simpa using hk); exact c9)),(HF.out.ks (fun k hk => ?_)).trans (KS.aj h9 (fun k hk => ?_)),(HF.out.blk I1.out (.inl (by omega))).aj h9 (by simp; omega),(HF.out.blk I2.out (.inl (by omega))).aj h9 (by simp; omega),(HF.out.blk Q7.out (.inr (by simp))).aj h9 (by simp),(HF.out.blk Q8.out (.inr (by simp))).aj h9 (by simp),?_,?_,(HF.out.aV OO.out (by omega)).trans h9 (fun k hk => .inr (by simp at hk; omega)),i8,i9⟩
   . simp only [List.mem_cons,List.mem_range] at hk ⊢
     omega
   . simp only [List.mem_cons,List.mem_range,List.not_mem_nil,or_false] at hk ⊢
     omega
   . rw [show (((pre ++ [x]).map (·.val)).length:Int) = (pre.length:Int) + 1 by simp]
     exact k9'
   . rw [J6.out]
     have ht:=HT.out.less [s,s + 1,s + 2,s + 3,s + 4] (fun k hk => by simp at hk ⊢; omega);rw [<- HR.out] at ht;exact ht.aj h9 (fun k hk => by obtain rfl:k = s + 2:=(by simpa using hk); exact ⟨.inl (by simp),by omega⟩)
 case done =>
  rintro D ys W hD rfl hI hK
  have hmm:(List.finRange (min ds.length es.length)).map (·.val) = List.range ds.length:=by
   have h0:min ds.length es.length = ds.length:=by have:=HLE.out; omega
   apply List.ext_getElem
   . simp [h0]
   . intro k h1 h2
     simp
  rw [hmm] at hI;obtain ⟨i1,i2,i3,i4,i5,i6,i7,i8,i9⟩:=hI;have hcn:sF ds (List.range ds.length) = bV ds:=by rw [aan ds _ (Nat.le_refl _),List.take_of_length_le (Nat.le_refl _)]
  rw [hcn] at i6;have I1:=hide i1;have I2:=hide i2;have Q7:=hide i3;have TW:=hide i6;have OO:=hide i7;have HKD:=hide hK;have hQb:11<=w.heap.size + 1:=by omega
  clear hcn i1 i2 i3 i4 i5 i6 i7 HI HP0 cO hmm hK H H' HS HLN U1
  gi_wp2_with fail
  refine yQ (F:=Fence.wide) (fun _ => trivial) dI _ _ (fun (_:Unit) => H7 (w.heap.size + 1) d1 (bQ (bV ds))) (fun (_:Unit) L w' => yT (w.heap.size + 1) W (bQ (bV ds)) (L 6) (L 8) (L 10) w') () (by kernel_rfl) [] (by kernel_rfl) (fun p hp γ => by simp at hp) (by kernel_rfl) ?step ?start ?fin ?ext
  case start => exact ⟨I2.out,(ah.refl W _).drew⟩
  case ext =>
   intro γ L L' w' h hw;have hw':yT (w.heap.size + 1) W (bQ (bV ds)) (L 6) (L 8) (L 10) w':=hw;rw [h 6 (by decide),h 8 (by decide),h 10 (by decide)] at hw';exact hw'
  case step =>
   intro i_ o_ ho_ L av w1 γ hdn ak hW hL hpre K' Q' hK;have hW:yT (w.heap.size + 1) W (bQ (bV ds)) (L 6) (L 8) (L 10) w1:=hW
   match i_,ho_ with
    | 0,ho =>
     injection ho with ho; subst ho;have b6:av.tmps.getD 6 undef = .pointer (some ⟨w.heap.size + 1,0,none⟩):=dH ak 6 (by kernel_rfl);clear ak;refine f_ (v:=.pointer (some ⟨w.heap.size + 1,2,none⟩)) (w':=w1) ?_ (hK () w1 (fun _ _ => rfl) (show yT (w.heap.size + 1) W (bQ (bV ds)) (if (6:Nat) = 0 then true else L 6) (if (8:Nat) = 0 then true else L 8) (if (10:Nat) = 0 then true else L 10) _ from by rw [if_neg (show ¬(6:Nat) = 0 by decide),if_neg (show ¬(8:Nat) = 0 by decide),if_neg (show ¬(10:Nat) = 0 by decide)]; exact hW));go_simp
    | 1,ho =>
     injection ho with ho; subst ho;have s0:=aF ak 51 0 (by kernel_rfl) (hpre ⟨0,.data⟩ (by simp) rfl);simp only [H7] at s0;clear ak;have y2:=hW.1.cell' (i:=2) rfl;refine f_ (v:=.int .i64 (-1)) (w':=w1) ?_ (hK () w1 (fun _ _ => rfl) (show yT (w.heap.size + 1) W (bQ (bV ds)) (if (6:Nat) = 1 then true else L 6) (if (8:Nat) = 1 then true else L 8) (if (10:Nat) = 1 then true else L 10) _ from by rw [if_neg (show ¬(6:Nat) = 1 by decide),if_neg (show ¬(8:Nat) = 1 by decide),if_neg (show ¬(10:Nat) = 1 by decide)]; exact hW));go_simp
    | 2,ho =>
     injection ho with ho; subst ho;have s1:=aF ak 52 1 (by kernel_rfl) (hpre ⟨1,.data⟩ (by simp) rfl);simp only [H7] at s1;clear ak;refine f_ (v:=.bool true) (w':=w1) ?_ (hK () w1 (fun _ _ => rfl) (show yT (w.heap.size + 1) W (bQ (bV ds)) (if (6:Nat) = 2 then true else L 6) (if (8:Nat) = 2 then true else L 8) (if (10:Nat) = 2 then true else L 10) _ from by rw [if_neg (show ¬(6:Nat) = 2 by decide),if_neg (show ¬(8:Nat) = 2 by decide),if_neg (show ¬(10:Nat) = 2 by decide)]; exact hW));go_simp
    | 3,ho =>
     injection ho with ho; subst ho;have b7:av.tmps.getD 7 undef = .pointer (some ⟨s,0,none⟩):=dH ak 7 (by kernel_rfl);clear ak;have y7:=(Q7.out.aj hW.2 (by simp; omega)).cell' (i:=0) rfl;refine f_ (v:=.pointer (some ⟨d1,0,none⟩)) (w':=w1) ?_ (hK () w1 (fun _ _ => rfl) (show yT (w.heap.size + 1) W (bQ (bV ds)) (if (6:Nat) = 3 then true else L 6) (if (8:Nat) = 3 then true else L 8) (if (10:Nat) = 3 then true else L 10) _ from by rw [if_neg (show ¬(6:Nat) = 3 by decide),if_neg (show ¬(8:Nat) = 3 by decide),if_neg (show ¬(10:Nat) = 3 by decide)]; exact hW));go_simp
    | 4,ho =>
     injection ho with ho; subst ho;have s3:=aF ak 54 3 (by kernel_rfl) (hpre ⟨3,.data⟩ (by simp) rfl);simp only [H7] at s3;clear ak;have hm:=(TW.out.aj hW.2 (fun k hk => by simp at hk; exact ⟨.inr (.inl (by omega)),by omega⟩)).cost;refine adh ?_ hm ?_
     . go_simp
     rintro e w2 ⟨rfl,rfl⟩;refine ⟨_,rfl,?_⟩;exact hK () w1 (fun _ _ => rfl) (show yT (w.heap.size + 1) W (bQ (bV ds)) (if (6:Nat) = 4 then true else L 6) (if (8:Nat) = 4 then true else L 8) (if (10:Nat) = 4 then true else L 10) _ from by rw [if_neg (show ¬(6:Nat) = 4 by decide),if_neg (show ¬(8:Nat) = 4 by decide),if_neg (show ¬(10:Nat) = 4 by decide)]; exact hW)
    | 5,ho =>
     injection ho with ho; subst ho;have b6:av.tmps.getD 6 undef = .pointer (some ⟨w.heap.size + 1,0,none⟩):=dH ak 6 (by kernel_rfl);clear ak;refine f_ (v:=.pointer (some ⟨w.heap.size + 1,0,none⟩)) (w':=w1) ?_ (hK () w1 (fun _ _ => rfl) (show yT (w.heap.size + 1) W (bQ (bV ds)) (if (6:Nat) = 5 then true else L 6) (if (8:Nat) = 5 then true else L 8) (if (10:Nat) = 5 then true else L 10) _ from by rw [if_neg (show ¬(6:Nat) = 5 by decide),if_neg (show ¬(8:Nat) = 5 by decide),if_neg (show ¬(10:Nat) = 5 by decide)]; exact hW));go_simp
    | 6,ho =>
     injection ho with ho; subst ho;have s5:=aF ak 56 5 (by kernel_rfl) (hpre ⟨5,.data⟩ (by simp) rfl);simp only [H7] at s5;clear ak;have f0:=hW.1.frozen 0;have y0:=hW.1.cell' (i:=0) rfl;have hw2:=hW.1.aK 0 (.bool true);have hc2:=hW.2.setCell ⟨w.heap.size + 1,0,none⟩ (.bool true) (.inl (by simp));refine Fa (w':=w1.setCell ⟨w.heap.size + 1,0,none⟩ (.bool true)) ?_ (hK () _ (fun _ _ => rfl) ?_)
     . go_simp
     . show yT (w.heap.size + 1) W (bQ (bV ds)) (if (6:Nat) = 6 then true else L 6) (if (8:Nat) = 6 then true else L 8) (if (10:Nat) = 6 then true else L 10) _
       rw [if_pos rfl,if_neg (show ¬(8:Nat) = 6 by decide),if_neg (show ¬(10:Nat) = 6 by decide)];exact ⟨hw2,hc2⟩
    | 7,ho =>
     injection ho with ho; subst ho;have b6:av.tmps.getD 6 undef = .pointer (some ⟨w.heap.size + 1,0,none⟩):=dH ak 6 (by kernel_rfl);clear ak;refine f_ (v:=.pointer (some ⟨w.heap.size + 1,1,none⟩)) (w':=w1) ?_ (hK () w1 (fun _ _ => rfl) (show yT (w.heap.size + 1) W (bQ (bV ds)) (if (6:Nat) = 7 then true else L 6) (if (8:Nat) = 7 then true else L 8) (if (10:Nat) = 7 then true else L 10) _ from by rw [if_neg (show ¬(6:Nat) = 7 by decide),if_neg (show ¬(8:Nat) = 7 by decide),if_neg (show ¬(10:Nat) = 7 by decide)]; exact hW));go_simp
    | 8,ho =>
     injection ho with ho; subst ho;have s7:=aF ak 57 7 (by kernel_rfl) (hpre ⟨7,.data⟩ (by simp) rfl);simp only [H7] at s7;have s2:=aF ak 53 2 (by kernel_rfl) (hpre ⟨2,.data⟩ (by simp) rfl);simp only [H7] at s2;clear ak;have f0:=hW.1.frozen 1;have y0:=hW.1.cell' (i:=1) rfl;have hw2:=hW.1.aK 1 (.bool true);have hc2:=hW.2.setCell ⟨w.heap.size + 1,1,none⟩ (.bool true) (.inl (by simp));refine Fa (w':=w1.setCell ⟨w.heap.size + 1,1,none⟩ (.bool true)) ?_ (hK () _ (fun _ _ => rfl) ?_)
     . go_simp
     . show yT (w.heap.size + 1) W (bQ (bV ds)) (if (6:Nat) = 8 then true else L 6) (if (8:Nat) = 8 then true else L 8) (if (10:Nat) = 8 then true else L 10) _
       rw [if_neg (show ¬(6:Nat) = 8 by decide),if_pos rfl,if_neg (show ¬(10:Nat) = 8 by decide)];exact ⟨hw2,hc2⟩
    | 9,ho =>
     injection ho with ho; subst ho;have b6:av.tmps.getD 6 undef = .pointer (some ⟨w.heap.size + 1,0,none⟩):=dH ak 6 (by kernel_rfl);clear ak;refine f_ (v:=.pointer (some ⟨w.heap.size + 1,3,none⟩)) (w':=w1) ?_ (hK () w1 (fun _ _ => rfl) (show yT (w.heap.size + 1) W (bQ (bV ds)) (if (6:Nat) = 9 then true else L 6) (if (8:Nat) = 9 then true else L 8) (if (10:Nat) = 9 then true else L 10) _ from by rw [if_neg (show ¬(6:Nat) = 9 by decide),if_neg (show ¬(8:Nat) = 9 by decide),if_neg (show ¬(10:Nat) = 9 by decide)]; exact hW));go_simp
    | 10,ho =>
     injection ho with ho; subst ho;have s9:=aF ak 58 9 (by kernel_rfl) (hpre ⟨9,.data⟩ (by simp) rfl);simp only [H7] at s9;have s4:=aF ak 55 4 (by kernel_rfl) (hpre ⟨4,.data⟩ (by simp) rfl);simp only [H7] at s4;clear ak;have f0:=hW.1.frozen 3;have y0:=hW.1.cell' (i:=3) rfl;have hw2:=hW.1.aK 3 (.int .i64 (bQ (bV ds)));have hc2:=hW.2.setCell ⟨w.heap.size + 1,3,none⟩ (.int .i64 (bQ (bV ds))) (.inl (by simp));refine Fa (w':=w1.setCell ⟨w.heap.size + 1,3,none⟩ (.int .i64 (bQ (bV ds)))) ?_ (hK () _ (fun _ _ => rfl) ?_)
     . go_simp
     . show yT (w.heap.size + 1) W (bQ (bV ds)) (if (6:Nat) = 10 then true else L 6) (if (8:Nat) = 10 then true else L 8) (if (10:Nat) = 10 then true else L 10) _
       rw [if_neg (show ¬(6:Nat) = 10 by decide),if_neg (show ¬(8:Nat) = 10 by decide),if_pos rfl];exact ⟨hw2,hc2⟩
    | _ + 11,ho => cases ho
  case fin =>
   intro γ w2 hW;have hW:yT (w.heap.size + 1) W (bQ (bV ds)) true true true w2:=hW;obtain ⟨hb,hc⟩:=hW;rw [fK,dM,eP];simp only [List.map_cons,List.map_nil];rw [anj];simp only [H7];have y0:=hb.cell' (i:=0) rfl;have y1:=hb.cell' (i:=1) rfl;have y2:=hb.cell' (i:=2) rfl;have y3:=hb.cell' (i:=3) rfl;have k0:=I1.out.aj hc (by simp);have x0:=k0.cell' (i:=0) rfl;have x1:=k0.cell' (i:=1) rfl;have x2:=k0.cell' (i:=2) rfl;have x3:=k0.cell' (i:=3) rfl;have f0:=k0.frozen 0;have f1:=k0.frozen 1;have f2:=k0.frozen 2;have f3:=k0.frozen 3;have G6:=hide hc;have HB:=hide hb;have K0:=hide k0;clear hb hc k0;obtain ⟨κ,hκ⟩:∃ κ,bQ (bV ds) = κ:=⟨_,rfl⟩
   simp only [hκ] at y3 HB ⊢
   gi_wp2
   have h9:=af9 ((G6.out.more (D':=[w.heap.size + 1,w.heap.size]) (fun k hk => .inl (by simp at hk; simp [hk])))) (g:=w.heap.size) (.inl (by simp)) (.bool true) (.bool true) (.int .i64 (-1)) (.int .i64 κ);exact adr (w:=w) rfl rfl (OO.out.trans h9 (fun k hk => .inr (by simp at hk; omega))) (by omega) (aqG K0.out (.bool true) (.bool true) (.int .i64 (-1)) (.int .i64 κ)) (h9.heap HKD.out (by simp; omega)) (fun w' h => ⟨rfl,h⟩)
 case stop =>
  rintro D c pre W hD _ hf hK;exact hf.elim
end
end Go.Proofs.YtnkmmaijigihpaaGreatDoor
