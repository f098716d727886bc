/- Texts of this claim, side by side. -/
import Derived.Test.YtjmojlhnmkjdkaaGreatDoorDP9
import Derived.Test.YtjmojlhnmkjdkaaGreatDoorShelfMD
import Derived.Maps.RangeWalk
import Derived.Test.YtjmojlhnmkjdkaaGreatDoorDP14
import Derived.Test.YtjmojlhnmkjdkaaGreatDoorImgF0D
set_option linter.unusedVariables false
set_option linter.unusedSimpArgs false
set_option maxRecDepth 100000
set_option maxHeartbeats 8000000
namespace Go.Proofs.YtjmojlhnmkjdkaaGreatDoor
section
open Go Go.RowKit Go.Deep Go.Maps Ab Xi
attribute [local go_sem] Oper.semAt_some
theorem size_bool:(Tryz.prog.info? 4).map (·.size)=some 1:=by kernel_rfl
theorem Hy:(Tryz.prog.info? 4).map (fun i=>(i.zero,i.size,i.bytes))=some (some (.bool false),1,1):=by kernel_rfl
def oM(b:Bool)(k n:Nat):List Value:=List.replicate k (.bool b)++List.replicate (n - k) (.bool false)
theorem aiu(b:Bool){k n:Nat}(h:k<=n):(oM b k n).length=n:=by unfold oM; simp; omega
theorem YQ(b:Bool){k m n:Nat}(h:k+m<=n):splice (oM b k n) k (List.replicate m (.bool b))=oM b (k+m) n:=by
 unfold splice oM;rw [List.take_append_of_le_length (by simp),List.take_replicate,Nat.min_self,List.length_replicate,List.drop_append,List.length_replicate,List.drop_replicate,List.drop_replicate,<- List.append_assoc,<- List.append_assoc,List.replicate_append_replicate,Nat.sub_eq_zero_of_le (by omega:k<=k+m)];simp only [List.replicate_zero,List.append_nil];rw [show n - k - (k+m - k)=n - (k+m) by omega]
theorem amN(b:Bool){k n j:Nat}(h:j<k):(oM b k n)[j]?=some (.bool b):=by
 unfold oM;rw [List.getElem?_append_left (by simpa using h),List.getElem?_replicate,if_pos h]
theorem apK{b:Bool}{k j:Nat}{u:Value}(h:(List.replicate k (Value.bool b))[j]?=some u):j<k/\u=.bool b:=by
 rw [List.getElem?_replicate] at h;split at h
 . rename_i hj
   injection h with h;exact⟨hj,h.symm⟩
 . cases h
theorem ZJ(b:Bool)(k:Nat):∀ v∈List.replicate k (Value.bool b),v.oneCell'=true:=fun v hv=>by
 rw [(List.mem_replicate.1 hv).2]; rfl
theorem Vu{W:World}{g m n k:Nat}{b:Bool}(hg:aC W g 4 (oM b m n))(src:Addr)(sLen sCap dLen dCap:Nat)(hsrc:∀ j,j<k->W.cell? (src.add j)=some (.bool b))(hk:k=Nat.min sLen dLen)(hf:m+k<=n) :
 ∃ W',(Builtin.copy_ #[63,63] 3 #[.slice (some ⟨g,m,none⟩) dLen dCap,.slice (some src) sLen sCap]).run Tryz.prog W=.ok (.int .i64 (k:Int)) W'/\aC W' g 4 (oM b (m+k) n)/\∀(w0:World) (B:Nat),Below B w0 W->B<=g->Below B w0 W':=by
 have hr:=run_copy_row (P:=Tryz.prog) W 63 63 3 4 g m dLen dCap src sLen sCap (oM b m n).toArray 4 (List.replicate k (.bool b)) Tryz.underlying63 size_bool hg (by rw [List.length_replicate]; exact hk) (fun j v hj=>by obtain⟨h1,rfl⟩:=apK hj; exact hsrc j h1) (by rw [List.length_replicate]; simp only [List.size_toArray]; rw [aiu b (by omega)]; exact hf) (ZJ b k);rw [List.length_replicate] at hr;have hs:=YQ b (k:=m) (m:=k) (n:=n) hf;unfold splice at hs;rw [List.length_replicate] at hs;rw [show((oM b m n).toArray.toList.take m++List.replicate k (Value.bool b)++(oM b m n).toArray.toList.drop (m+k))=oM b (m+k) n by rw [<- hs,List.append_assoc]] at hr;exact⟨W.setRow g (oM b (m+k) n).toArray,hr,setRow_heap W g _ _ _ _ hg,fun w0 B hb hB=>below_setRow hb hB _⟩
theorem Vw(w:World)(q n:Nat)(b:Bool)(hq:w.cell? ⟨q,0,none⟩=some (.bool b))(h1:1<=n)(h2:n<=3000) :
 Calls Tryz.prog 173 #[.slice (some ⟨q,0,none⟩) 1 1,.int .i64 (n:Int)] w fun e w'=>e=.returned (.slice (some ⟨w.heap.size,0,none⟩) n n)/\ah w w' []/\aC w' w.heap.size 4 (List.replicate n (.bool b)):=by
 obtain⟨i0,hi0,hz0,hz1,hz2⟩:=info_parts Hy;have hmu:∀ W:World,Calls Tryz.prog 241 #[.int .u64 (1:Nat),.int .u64 n] W fun e w'=>e=.returned (.tuple #[.int .u64 ((1*n / 18446744073709551616:Nat):Int),.int .u64 ((1*n%18446744073709551616:Nat):Int)])/\W=w':=fun W=>(Tryz.bits_Mul 1 n (by decide) (by omega) W).mono fun e w' ⟨h1,h2⟩=>⟨h1,h2.symm⟩;rw [show 1*n / 18446744073709551616=0 by omega,show 1*n%18446744073709551616=n by omega] at hmu;have hmk:=run_make_row' (P:=Tryz.prog) 63 4 (.bool false) 1 Tryz.underlying63 Hy rfl .i64 .i64 n (by omega) (by omega);rw [lW] at hmk;have x1:decide ((n:Int)<0)=false:=decide_eq_false (by omega);have x2:decide (9223372036854775807<(n:Int))=false:=decide_eq_false (by omega);have hwu:IntKind.u64.wrap (n:Int)=(n:Int):=by rw [IntKind.wrap_u64]; omega
 have hwi:wrap64 (n:Int)=(n:Int):=by unfold wrap64; omega
 have HQ:=hide hq;clear hq;go_enter Tryz.func173,Tryz.ntmps173
 have hz0:zeros (.bool false) n=oM b 0 n:=by unfold zeros oM; simp
 have hb0:=aC.new w 4 (zeros (.bool false) n);rw [hz0] at hmk hb0;obtain⟨w1,hcp,hg1,hb1⟩:=Vu (k:=1) hb0 ⟨q,0,none⟩ 1 1 n n (fun j hj=>by obtain rfl:j=0:=(by omega); rw [add_plain]; exact((ah.refl w []).alloc _).cell HQ.out (by simp)) (Nat.min_eq_left h1).symm (by omega);have HG1:Hid (aC w1 w.heap.size 4 (oM b 1 n)):=hide (by simpa using hg1);have HW1:=hide (hb1 w w.heap.size (ah.Uf ((ah.refl w []).alloc _)) (Nat.le_refl _));clear hb0 hz0 hg1 hb1;go_wp2_with (go_at_call 241; refine(hmu _).mono ?_; rintro e w2 ⟨rfl,rfl⟩);clear hcp hmk hmu HQ;go_loopw [8] (fun v wr=>∃ m:Nat,1<=m/\m<=n/\v=.int .i64 m/\Hid (aC wr w.heap.size 4 (oM b m n))/\Hid (Below w.heap.size w wr)) (fun v _=>n - (intOf v).toNat)
 case atStart=>exact⟨1,Nat.le_refl _,h1,rfl,HG1,HW1⟩
 case round =>
  obtain⟨m,hm1,hm2,rfl,HG,HW⟩:=hrel;by_cases hlt:m<n
  . have hgd:=HG.out.drew
    obtain ⟨w3,hcp,hg3,hb3⟩:=Vu (k:=min m (n - m)) hgd ⟨w.heap.size,0,none⟩ m n (n - m) (n - m) (fun j hj => by
     have hjm:j<m:=Nat.lt_of_lt_of_le hj (Nat.min_le_left _ _);rw [add_plain,Nat.zero_add]
     exact hgd.cell' (amN b hjm)) rfl (by have:=Nat.min_le_right m (n - m); omega)
    have hk1:1<=min m (n - m):=by omega
    have hk2:m+min m (n - m)<=n:=by omega
    have HG3:=hide hg3;have HB3:=hide (hb3 w w.heap.size HW.out.drew (Nat.le_refl _));clear hgd hg3 hb3;generalize min m (n - m)=k at *;have hwk:IntKind.i64.wrap ((m:Int)+(k:Int))=(m:Int)+(k:Int):=by rw [IntKind.wrap_i64]; omega
    go_wp2_with fail
    go_region_with (fail)
    all_goals
     simp only [Act.put,Array.setIfInBounds,List.getElem_toArray,List.getElem_cons_zero,List.getElem_cons_succ];go_simp;go_roundw
     case rel=>exact⟨_,_,_,_,_,_,_,_,_,_,_,_,_,_,⟨m+k,by omega,hk2,by rw [Int.natCast_add],HG3,HB3⟩,rfl⟩
     case measure=>simp [intOf]; omega
  . have hk2:m=n:=by omega
    subst hk2;go_wp2;go_ret;refine⟨rfl,ah.of_below HW.out,?_⟩;have:=HG.out;unfold oM at this;rw [Nat.sub_self,List.replicate_zero,List.append_nil] at this;exact this
def dW(l:List (Nat×Nat×Bool)):List Bool:=l.flatMap fun p=>List.replicate p.2.1 p.2.2
def bools (l:List Bool):List Value:=l.map Value.bool
theorem afe(l:List (Nat×Nat×Bool))(p:Nat×Nat×Bool):bools (dW (l++[p]))=bools (dW l)++List.replicate p.2.1 (.bool p.2.2):=by
 unfold dW;rw [List.flatMap_append];show bools (_++(List.replicate p.2.1 p.2.2++[]))=_;rw [List.append_nil];unfold bools;rw [List.map_append,List.map_replicate]
theorem Vx:∀(l:List (Nat×Nat×Bool)),(∀ p∈l,p.2.1<=2048)->(dW l).length<=l.length*2048
 | [],_=>by simp [dW]
 | p::l,h=>by
  have ih:=Vx l fun q hq=>h q (List.mem_cons_of_mem _ hq);have:=h p List.mem_cons_self;unfold dW at ih ⊢;rw [List.flatMap_cons,List.length_append,List.length_replicate,List.length_cons];omega
theorem Hz:∀(l:List (Nat×Nat×Bool)) (u j:Nat),j<l.length->∃ k a n b,l.reverse[j]?=some (k,n,b)/\(dH l u)[j*4]?=some (bH (iL k))/\(dH l u)[j*4+1]?=some (.int .i64 (a:Nat))/\(dH l u)[j*4+2]?=some (.int .i64 (n:Nat))/\(dH l u)[j*4+3]?=some (.bool b)
 | [],_,j,h=>by simp at h
 | (k,n,b)::l,u,j,h=>by
  have hl:=Ap l (u - n);unfold dH;rw [List.reverse_cons];by_cases e:j<l.length
  . obtain⟨k',a',n',b',hx,h0,h1,h2,h3⟩:=Hz l (u - n) j e
    refine⟨k',a',n',b',?_,?_,?_,?_,?_⟩
    . rw [List.getElem?_append_left (by simpa using e)]; exact hx
    all_goals rw [List.getElem?_append_left (by omega)]; assumption
  . have e:j=l.length:=by simp at h; omega
    subst e;refine⟨k,u - n,n,b,?_,?_,?_,?_,?_⟩
    . rw [List.getElem?_append_right (by simp)]; simp
    all_goals rw [List.getElem?_append_right (by omega)]
    . rw [show l.length*4 - (dH l (u - n)).length=0 by omega]; rfl
    . rw [show l.length*4+1 - (dH l (u - n)).length=1 by omega]; rfl
    . rw [show l.length*4+2 - (dH l (u - n)).length=2 by omega]; rfl
    . rw [show l.length*4+3 - (dH l (u - n)).length=3 by omega]; rfl
theorem ab6{w:World}{pp used:Nat}{rv:Value}{rr:List (Nat×Nat×Bool)}(h:PL w pp rv used rr):Calls Tryz.prog 108 #[.pointer (some ⟨pp,0,none⟩)] w fun e w'=>e=.returned (.int .i64 (used:Int))/\w=w':=by
 have c1:=h.blk.cell' (i:=1) rfl;clear h;go_enter Tryz.func108,Tryz.ntmps108
 go_wp2;go_ret;exact⟨rfl,rfl⟩
theorem Vy{w:World}{pp used:Nat}{rv:Value}{rr:List (Nat×Nat×Bool)}(h:PL w pp rv used rr)(hn:∀ p∈rr,1<=p.2.1/\p.2.1<=2048)(hl:rr.length<=1000000) :
 Calls Tryz.prog 107 #[.pointer (some ⟨pp,0,none⟩)] w fun e w'=>∃ v,e=.returned v/\ah w w' []/\w'.ownsRow w.heap.size 4 1 v (dW rr.reverse).length (bools (dW rr.reverse)):=by
 obtain⟨i0,hi,hz0,hz1,hz2⟩:=info_parts Hy;have ha:=Rf h;obtain⟨A,c,rfl,hx⟩:=oH h.row;have HX:=hide hx;have HN:=hide hn;clear h hx hn;go_enter Tryz.func107,Tryz.ntmps107
 go_wp2_with (go_at_call 172; refine ha.mono ?_; rintro e w1 ⟨rfl,rfl⟩);go_loopw [3,9] (fun v i wr=>∃ k:Nat,k<=rr.length/\i=.int .i64 k/\Hid (ah w wr [])/\Hid (wr.ownsRow w.heap.size 4 1 v (dW (rr.reverse.take k)).length (bools (dW (rr.reverse.take k))))) (fun _ i _=>rr.length - (intOf i).toNat)
 case atStart=>exact⟨0,Nat.zero_le _,rfl,hide (ah.refl _ _),hide (World.ownsRow_nil _ _ _ _)⟩
 case round =>
  obtain⟨k,hk,rfl,HR,HO⟩:=hrel;by_cases hlt:k<rr.length
  . obtain⟨g,rfl,hgl,hgb,hcells⟩:=HX.out (by omega)
    obtain⟨kn,a,n,b,hrk,e0,e1,e2,e3⟩:=Hz rr used k hlt;have ca:=HR.out.cell (hcells _ _ e0) (by simp);have cb:=HR.out.cell (hcells _ _ e1) (by simp);have cc:=HR.out.cell (hcells _ _ e2) (by simp);have cd:=HR.out.cell (hcells _ _ e3) (by simp);have hgr:g<wr.heap.size:=by have:=HR.out.size; omega
    obtain⟨hn1,hn2⟩:=HN.out (kn,n,b) (List.mem_reverse.1 (List.mem_of_getElem? hrk));have hn1:1<=n:=hn1;have hn2:n<=2048:=hn2
    have hsn:bools (dW (rr.reverse.take (k+1)))=bools (dW (rr.reverse.take k))++List.replicate n (.bool b):=by
     rw [List.take_add_one,hrk];exact afe _ _
    have hsz:(dW (rr.reverse.take k)).length<=2048*1000000:=by
     have:=Vx (rr.reverse.take k) fun p hp=>(HN.out p (List.mem_reverse.1 (List.mem_of_mem_take hp))).2;have h2:(rr.reverse.take k).length<=1000000:=by rw [List.length_take,List.length_reverse]; omega
     omega
    have HSN:=hide hsn;obtain⟨V,vc,rfl⟩:=bK HO.out;have hrp:=fun W q hq=>Vw W q n b hq hn1 (by omega);clear hcells e0 e1 e2 e3 hsn hrk;unfold bH at *;go_wp2_with fail
    go_at_call 173;have hz1:(wr.alloc (.cells #[.string ⟨(iL kn).toArray⟩,.int .i64 (a:Int),.int .i64 (n:Int),.bool b] 247)).heap.size=wr.heap.size+1:=size_alloc _ _
    have hq0:((wr.alloc (.cells #[.string ⟨(iL kn).toArray⟩,.int .i64 (a:Int),.int .i64 (n:Int),.bool b] 247)).alloc (.cells #[.bool b] 4)).cell? ⟨wr.heap.size+1,0,none⟩=some (.bool b):=by
     have:=(aC.new (wr.alloc (.cells #[.string ⟨(iL kn).toArray⟩,.int .i64 (a:Int),.int .i64 (n:Int),.bool b] 247)) 4 [.bool b]).cell' (i:=0) rfl;rw [hz1] at this;exact this
    refine(hrp _ (wr.heap.size+1) hq0).mono ?_;have hca:ah wr ((wr.alloc (.cells #[.string ⟨(iL kn).toArray⟩,.int .i64 (a:Int),.int .i64 (n:Int),.bool b] 247)).alloc (.cells #[.bool b] 4)) []:=((ah.refl wr []).alloc _).alloc _;generalize (wr.alloc (.cells #[.string ⟨(iL kn).toArray⟩,.int .i64 (a:Int),.int .i64 (n:Int),.bool b] 247)).alloc (.cells #[.bool b] 4)=w2 at *;rintro e w3 ⟨rfl,hc3,hb3⟩;have hcR:=(HR.out.trans hca (by simp)).trans hc3 (by simp);have HCR:=hide hcR;have J4:=hide (aH HO.out (hca.trans hc3 (by simp)) (by simp));have HB3:=hide hb3;generalize hg2:w2.heap.size=g2 at *;clear hz1 hq0 hca hc3 hb3 hcR hrp ca cb cc cd;go_wp2_with (at_builtin; refine wpList_append_own _ rfl _ _ 63 rfl w.heap.size 4 i0 (.bool false) 1 1 Tryz.underlying63 hi hz0 hz1 hz2 rfl (by decide) _ (dW (rr.reverse.take k)).length _ rfl J4.out ⟨g2,0,none⟩ n n (List.replicate n (.bool b)) rfl (by simp) ?c1 (ZJ b n) ?c3 ?c4 ?c5 ?_)
    case c1 =>
     intro j u hj;rw [add_plain,Nat.zero_add];exact HB3.out.cell' hj
    case c3=>unfold maxLen; omega
    case c4=>omega
    case c5=>exact HCR.out.size
    intro v' w4 hown' hgrow _;have HG:Hid (ah w w4 []):=hide (HCR.out.trans (D':=(Value.slice V (dW (rr.reverse.take k)).length vc).ownBlock.toList) (ah.fZ hgrow (fun k hk=>.inl (by simp [hk]))) (fun k hk=>.inr (HO.out.lt k (by simpa using hk)).1))
    have hll:(dW (rr.reverse.take k)).length+n=(dW (rr.reverse.take (k+1))).length:=by
     have:=congrArg List.length HSN.out;unfold bools at this;rw [List.length_append,List.length_map,List.length_map,List.length_replicate] at this;omega
    have qc:Hid (w4.ownsRow w.heap.size 4 1 v' (dW (rr.reverse.take (k+1))).length (bools (dW (rr.reverse.take (k+1))))):=hide (by rw [HSN.out,<- hll]; exact hown');obtain⟨A6,c6,hv'⟩:=bK hown';clear hown' hgrow hll;go_wp2;go_roundw
    case rel=>exact⟨k+1,by omega,by go_num,HG,qc⟩
    case measure=>simp [intOf]; omega
  . have hk2:k=rr.length:=by omega
    subst hk2;go_wp2;go_ret;have:=HO.out;rw [List.take_of_length_le (by simp)] at this;exact⟨_,rfl,HR.out,this⟩
def Jl(s:KS):List Int:=(List.range s.used).map fun a:Nat=>(findD s.data (a:Int)).getD 0
def w_ (w:World) (v:Value) (code data:List Int) (sec:List Bool) (ins outs:List Nat):Prop :=
 ∃ c d se i o,v=.agg #[c,d,se,i,o]/\Sl w c (jH code)/\Sl w d (bG data)/\Sl w se (bools sec)/\Sl w i (ints ins)/\Sl w o (ints outs)
def VA(v:Value)(F:List Nat)(n:Nat):Prop:=∀ c d se i o,v=.agg #[c,d,se,i,o]->∀ u∈[c,d,se,i,o],∀ A m k,u=.slice (some A) m k->A.block∈F\/n<=A.block
def _root_.Go.Proofs.YtjmojlhnmkjdkaaGreatDoor.Ab.KS.NQ (s:KS):Bool :=
 Nat.ble s.nc 16000&&(s.rd.all (fun p=>Nat.ble p.2 1000000)&&(s.ru.all (fun p=>Nat.ble p.2 1000000&&Nat.ble p.1 100000)&&(s.rr.all (fun p=>Nat.ble 1 p.2.1&&Nat.ble p.2.1 2048)&&s.data.all (fun p=>Nat.blt p.1 s.used))))
theorem ZK{s:KS}(h:s.NQ=true):s.nc<=16000/\(∀ p∈s.rd,p.2<=1000000)/\(∀ p∈s.ru,p.2<=1000000/\p.1<=100000)/\(∀ p∈s.rr,1<=p.2.1/\p.2.1<=2048)/\(∀ p∈s.data,p.1<s.used):=by
 unfold KS.NQ at h;simp only [Bool.and_eq_true,List.all_eq_true,Xi.bn,Xi.aI] at h;exact h
theorem amP{s:KS}(h:s.NQ=true):Fine s.bm:=by
 obtain⟨_,h1,h2,_,_⟩:=ZK h;refine⟨fun p hp=>?_,fun p hp=>?_⟩
 . obtain⟨q,hq,rfl⟩:=List.mem_map.1 hp
   have:=h1 q (List.mem_reverse.1 hq);show 0<=(q.2:Int)/\(q.2:Int)<=1000000;omega
 . obtain⟨q,hq,rfl⟩:=List.mem_map.1 hp
   obtain⟨h3,h4⟩:=h2 q (List.mem_reverse.1 hq);refine⟨?_,?_⟩
   . show 0<=(q.2:Int)/\(q.2:Int)<=1000000
     omega
   . show(jg q.1).length<=1000000
     have:=DR (u:=q.1) (by omega);unfold jg oI;rw [Lib.itoa_nonneg,List.length_cons];omega
theorem aff{l:List (Nat×Int)}{a:Int}{x:Int}(h:findD l a=some x):∃ p∈l,(p.1:Int)=a:=by
 induction l with
 | nil=>cases h
 | cons p l ih =>
  obtain⟨k,y⟩:=p;unfold findD at h;by_cases e:(k:Int)=a
  . exact⟨_,List.mem_cons_self,e⟩
  . rw [if_neg e] at h
    obtain⟨q,hq,h2⟩:=ih h;exact⟨q,List.mem_cons_of_mem _ hq,h2⟩
def o9(s:KS)(left:Lit->Bool):List Int:=(List.range s.used).map fun a:Nat=>if left (.int .i64 (a:Int))=true then 0 else(findD s.data (a:Int)).getD 0
theorem ab7(s:KS)(left:Lit->Bool):(o9 s left).length=s.used:=by simp [o9]
theorem ab8(s:KS){left:Lit->Bool}(h:∀ kl,left kl=false):o9 s left=Jl s:=by
 unfold o9 Jl;refine List.map_congr_left fun a _=>?_;rw [h,if_neg (by decide)]
theorem VB(s:KS){left:Lit->Bool}(h:∀ a:Nat,(left (.int .i64 (a:Int))=false->findD s.data (a:Int)=none)):bG (o9 s left)=zeros (.int .i32 0) s.used:=by
 unfold bG o9 zeros;rw [List.map_map];apply List.ext_getElem
 . simp
 . intro j h1 h2
   simp only [List.getElem_map,List.getElem_range,Function.comp,List.getElem_replicate]
   cases hl:left (.int .i64 (j:Int)) with
   | true=>simp
   | false=>simp [h j hl]
theorem YR(s:KS){left:Lit->Bool}{a:Nat}{c:Int}(ha:a<s.used)(hc:findD s.data (a:Int)=some c) :
 o9 s (fun z=>left z&&!z.sameKey (.int .i64 (a:Int)))=(o9 s left).set a c:=by
 unfold o9;apply List.ext_getElem
 . simp
 . intro j h1 h2
   have hj:j<s.used:=by simpa using h1
   rw [List.getElem_set];simp only [List.getElem_map,List.getElem_range];by_cases e:a=j
   . subst e
     rw [if_pos rfl,hc];have:(Lit.int .i64 (a:Int)).sameKey (.int .i64 (a:Int))=true:=WideAt.sameKey_self trivial;rw [this];simp
   . rw [if_neg e]
     have:(Lit.int .i64 (j:Int)).sameKey (.int .i64 (a:Int))=false:=by
      cases h:(Lit.int .i64 (j:Int)).sameKey (.int .i64 (a:Int)) with
      | false=>rfl
      | true=>have:=WideAt.sameKey_eq h; injection this with _ h; omega
     rw [this];simp
theorem aiw:jV ⟨43,0,0,0,0⟩=0:=by decide
theorem grown_setCell (w:World) (g i:Nat) (v:Value):w.grownBy (w.setCell ⟨g,i,none⟩ v) (some g) :=
 ⟨rfl,rfl,rfl,by rw [size_setCell]; exact Nat.le_refl _,fun k _ hk=>tV w _ _ k (fun e=>hk (by rw [e]))⟩
theorem sN{w:World}{q:Nat}{t:TypeId}{cs xs:List Value}{v:Value}(hb:aC w q t cs)(hs:Sl w v xs)(hne:∀ u∈cs,u∉xs)(h0:0<xs.length)(A:Addr)(n c:Nat)(he:v=.slice (some A) n c):A.block∉[q]:=by
 intro hm;subst he;obtain⟨b,off,hA,hc,_⟩:=hs.at_ (k:=0) (List.getElem?_eq_getElem h0);injection hA with hA;subst hA;have hm:b=q:=by simpa using hm
 subst hm;rw [hb.cell] at hc;exact hne _ (List.mem_of_getElem? hc) (List.getElem_mem h0)
section
variable {w:World} {b:MP} {s:KS} {F:List Nat}
theorem PY(h:KR w b s F)(hok:(s.ins ⟨43,0,0,0,0⟩).NQ=true)(hru:s.ru.length<=100000){l:List Int}(hl:Vf (s.ins ⟨43,0,0,0,0⟩)=some l) :
 Calls Tryz.prog 59 #[.pointer (some ⟨b.a,0,none⟩)] w fun e w'=>∃ v,e=.returned v/\ah w w' F/\w_ w' v l (Jl s) (dW s.rr.reverse) s.ri.reverse s.ro.reverse/\VA v F w.heap.size:=by
 obtain⟨i0,hi0,hz0,hz1,hz2⟩:=info_parts wJ;obtain⟨p,hp,hf,rfl⟩:=h;obtain⟨q1,q2,q3,q4,q5⟩:=ZK hok;have q1:s.nc+1<=16000:=q1;have HQ5:=hide (show ∀ p∈s.data,p.1<s.used from q5);have hu2:=hp.wf.used;have c0:=hp.blk.cell' (i:=0) rfl;have hlt:=hp.blk.lt;have hin:=fun o:Obj=>(hp.bJ ((ah.refl w []).alloc o)).ins ⟨43,0,0,0,0⟩ aiw (by omega);unfold bD at hin;have hmk:=run_make_row' (P:=Tryz.prog) 62 21 (.int .i32 0) 4 Tryz.underlying62 wJ rfl .i64 .i64 s.used (by omega) (by omega);rw [lW] at hmk;have HP:=hide hp;have VD:=hide q1;have HOK:=hide hok;have HL:=hide hl;have Zz:=hide (show ∀ p∈s.rr,1<=p.2.1/\p.2.1<=2048 from q4);clear hp hf hok hl q1 q2 q3 q4 q5;go_enter Tryz.func59,Tryz.ntmps59
 go_wp2_with fail
 go_at_call 105;refine(hin _).mono ?_;rintro e w1 ⟨rfl,hc1,p1,hp1,hf1,hs1⟩;have apL:w.heap.size∉p.foot b.a:=fun hm=>by have:=HP.out.flt _ hm; omega
 have ZL:=hide ((aC.new w 66 [.slice none 0 0,.slice none 0 0,.slice none 0 0,.slice none 0 0,.slice none 0 0]).aj hc1 apL);have apM:=hide (jP hs1 apL (by rw [size_alloc]; omega));have apN:=hide (show w.heap.size<w1.heap.size from(by have:=hc1.size; rw [size_alloc] at this; omega));have bZ:Hid (ah w w1 (p.foot b.a)):=hide (((ah.refl w _).alloc _).trans hc1 (fun k hk=>.inl hk));have dL:=hide hp1;have d0:=hp1.blk.cell' (i:=0) rfl;have d1:=hp1.blk.cell' (i:=1) rfl;have d8:=hp1.blk.cell' (i:=8) rfl;have d9:=hp1.blk.cell' (i:=9) rfl;have d10:=hp1.blk.cell' (i:=10) rfl;have d11:=hp1.blk.cell' (i:=11) rfl;have d12:=hp1.blk.cell' (i:=12) rfl;have hlt1:=hp1.blk.lt;obtain⟨Ai,ci,hAi⟩:=bK hp1.inn;obtain⟨Ao,co,hAo⟩:=bK hp1.out;rw [hAi] at d11;rw [hAo] at d12;have HAI:=hide hAi;have HAO:=hide hAo;have fJ:=hide hs1;clear hc1 hp1 hf1 hs1 hin c0 hAi hAo;go_wp2_with fail
 have hb2:=aC.new w1 66 [.slice none 0 0,.slice none 0 0,.slice none 0 0,.slice Ai s.ri.length ci,.slice Ao s.ro.length co];have hp2:=dL.out.bJ ((ah.refl w1 []).alloc (.cells #[.slice none 0 0,.slice none 0 0,.slice none 0 0,.slice Ai s.ri.length ci,.slice Ao s.ro.length co] 66));have hc2:ah w1 (w1.alloc (.cells #[.slice none 0 0,.slice none 0 0,.slice none 0 0,.slice Ai s.ri.length ci,.slice Ao s.ro.length co] 66)) []:=(ah.refl w1 []).alloc _;have hnq:w1.heap.size∉p1.foot b.a:=fun hm=>by have:=dL.out.flt _ hm; omega
 change Calls _ _ _ (w1.alloc (.cells #[.slice none 0 0,.slice none 0 0,.slice none 0 0,.slice Ai s.ri.length ci,.slice Ao s.ro.length co] 66)) _;have hzq:(w1.alloc (.cells #[.slice none 0 0,.slice none 0 0,.slice none 0 0,.slice Ai s.ri.length ci,.slice Ao s.ro.length co] 66)).heap.size=w1.heap.size+1:=size_alloc _ _;generalize w1.alloc (.cells #[.slice none 0 0,.slice none 0 0,.slice none 0 0,.slice Ai s.ri.length ci,.slice Ao s.ro.length co] 66)=w2 at *;have HZW:=hide hc2.size;generalize hqm:w1.heap.size=qm at *;go_at_call 106
 have hcl:((s.ins ⟨43,0,0,0,0⟩).bm.code.length)<=16384:=by
  show(s.ins ⟨43,0,0,0,0⟩).rc.reverse.length<=_;rw [List.length_reverse,<- dL.out.wf.nc];have:=VD.out;show s.nc+1<=_;omega
 have hfc:=SI hp2.nK (amP HOK.out) hcl (by show(s.ru.reverse.map _).length<=_; rw [List.length_map,List.length_reverse]; exact hru) hp2.jF.ert;rw [aoT HL.out] at hfc;refine hfc.mono ?_;rintro e w3 ⟨hc3,vc,rfl,hsl3,hfr3⟩;have aw1:=hide hfr3;clear hfr3;obtain⟨Ac,cc,Gg,_⟩:=id hsl3;subst Gg;have jC:=hide hc3;have apQ:=hide hsl3;have U7:=hide (hp2.bJ hc3);have HB3:=hide (hb2.aj hc3 (by simp));have HC2:=hide hc2;have HNQ:=hide hnq;have HZQ:=hide hzq;have f0:=HB3.out.frozen 0;have y0:=HB3.out.cell' (i:=0) rfl;have hlq:=HB3.out.lt;clear hfc hc3 hsl3 hp2 hb2 hc2 hnq hzq hcl d0 d1 d8 d9 d10 d11 d12 hlt hlt1;go_upto_region 4 with(fail)
 change Code.wp _ _ _ _ (w3.setCell ⟨qm,0,none⟩ (.slice Ac (jH l).length cc));have hQq:11<=qm:=by have:=dL.out.jF.size; omega
 have hx4:ah w3 (w3.setCell ⟨qm,0,none⟩ (.slice Ac (jH l).length cc)) [qm]:=(ah.refl w3 _).setCell _ _ (.inl (by simp));have hqf:∀ k∈p1.foot b.a,k∉[qm]:=fun k hk hm=>HNQ.out (by simp at hm; exact hm▸hk);have jW:=U7.out.aj hx4 hqf (fun k hk=>by simp at hk; exact hk▸hQq);have hb4:=HB3.out.aK 0 (.slice Ac (jH l).length cc)
 have apT:=apQ.out.bJ hx4 (sN HB3.out apQ.out (fun u hu hx=>by
  obtain⟨y,_,rfl⟩:=List.mem_map.1 hx
  simp at hu))
 generalize w3.setCell ⟨qm,0,none⟩ (.slice Ac (jH l).length cc)=w4 at *;have e1:=jW.blk.cell' (i:=1) rfl;have f2:=hb4.frozen 2;have y2:=hb4.cell' (i:=2) rfl;have apU:=Vy jW.plan Zz.out (by have q1:s.rr.length<=s.names:=jW.wf.cap; have q2:s.names<=100000:=jW.wf.names; show s.rr.length<=_; omega);have ayS:=jW.blk.lt;have Gl:=hide jW;have HB4:=hide hb4;have apV:=hide apT;have HX4:=hide hx4;have HQF:=hide hqf;have HQQ:=hide hQq;clear jW hb4 apT hx4 hqf hQq f0 y0 hlq;go_wp2_with fail
 go_at_call 107;refine apU.mono ?_;rintro e w5 ⟨vs,rfl,hc5,hown5⟩;obtain⟨As,cs,hvs⟩:=bK hown5;subst hvs;have g2:=(HB4.out.aj hc5 (by simp)).frozen 2;have z2:=(HB4.out.aj hc5 (by simp)).cell' (i:=2) rfl;have aw2:=(HB4.out.aj hc5 (by simp)).lt;have jD:=hide hc5;have QZ:=hide hown5;clear apU hc5 hown5 f2 y2 e1;go_upto_region 5 with(fail)
 change Code.wp _ _ _ _ (w5.setCell ⟨qm,2,none⟩ (.slice As (dW s.rr.reverse).length cs));have hx6:ah w5 (w5.setCell ⟨qm,2,none⟩ (.slice As (dW s.rr.reverse).length cs)) [qm]:=(ah.refl w5 _).setCell _ _ (.inl (by simp));have QW:=(Gl.out.bJ jD.out).aj hx6 HQF.out (fun k hk=>by simp at hk; exact hk▸HQQ.out);have hb6:=(HB4.out.aj jD.out (by simp)).aK 2 (.slice As (dW s.rr.reverse).length cs)
 have apX:=(apV.out.aj jD.out (by simp)).bJ hx6 (sN (HB4.out.aj jD.out (by simp)) (apV.out.aj jD.out (by simp)) (fun u hu hx=>by
  obtain⟨y,_,rfl⟩:=List.mem_map.1 hx
  simp at hu))
 have ho6:=aH QZ.out hx6 (fun g hg hm=>by
  have:=(QZ.out.lt g hg).1;simp at hm;have:=HB4.out.lt
  omega)
 generalize w5.setCell ⟨qm,2,none⟩ (.slice As (dW s.rr.reverse).length cs)=w6 at *;have e1:=QW.blk.cell' (i:=1) rfl;have atT:=QW.blk.lt;have hus:Calls Tryz.prog 108 #[.pointer (some ⟨p1.pp,0,none⟩)] w6 fun e w'=>e=.returned (.int .i64 (s.used:Int))/\w6=w':=ab6 QW.plan;have y1:=hb6.cell' (i:=1) rfl;have f1:=hb6.frozen 1;have aw3:=hb6.lt;have ZB:=hide QW;have DV:=hide hb6;have VE:=hide apX;have HO6:=hide ho6;have HX6:=hide hx6;clear QW hb6 apX ho6 hx6 g2 z2 aw2;go_upto_region 6 with(go_at_call 108; refine hus.mono ?_; rintro e w7 ⟨rfl,rfl⟩);change Code.wp _ _ _ _ ((w6.setCell ⟨qm,1,none⟩ (.slice (some ⟨w6.heap.size,0,none⟩) s.used s.used)).alloc (.cells (zeros (.int .i32 0) s.used).toArray 21));have hxa:ah w6 (w6.setCell ⟨qm,1,none⟩ (.slice (some ⟨w6.heap.size,0,none⟩) s.used s.used)) [qm]:=(ah.refl w6 _).setCell _ _ (.inl (by simp));have hx7:ah w6 ((w6.setCell ⟨qm,1,none⟩ (.slice (some ⟨w6.heap.size,0,none⟩) s.used s.used)).alloc (.cells (zeros (.int .i32 0) s.used).toArray 21)) [qm]:=hxa.alloc _;have hp7:=ZB.out.aj hx7 HQF.out (fun k hk=>by simp at hk; exact hk▸HQQ.out);have hb7:=(DV.out.aK 1 (.slice (some ⟨w6.heap.size,0,none⟩) s.used s.used)).alloc (.cells (zeros (.int .i32 0) s.used).toArray 21);have hg7:=aC.new (w6.setCell ⟨qm,1,none⟩ (.slice (some ⟨w6.heap.size,0,none⟩) s.used s.used)) 21 (zeros (.int .i32 0) s.used);rw [size_setCell] at hg7
 have PZ:=VE.out.bJ hx7 (sN DV.out VE.out (fun u hu hx=>by
  obtain⟨y,_,rfl⟩:=List.mem_map.1 hx
  simp at hu))
 have ho7:=aH HO6.out hx7 (fun g hg hm=>by
  have:=(HO6.out.lt g hg).1;simp at hm;have:=HB4.out.lt
  omega)
 have hz7:((w6.setCell ⟨qm,1,none⟩ (.slice (some ⟨w6.heap.size,0,none⟩) s.used s.used)).alloc (.cells (zeros (.int .i32 0) s.used).toArray 21)).heap.size=w6.heap.size+1:=by rw [size_alloc,size_setCell]
 generalize ((w6.setCell ⟨qm,1,none⟩ (.slice (some ⟨w6.heap.size,0,none⟩) s.used s.used)).alloc (.cells (zeros (.int .i32 0) s.used).toArray 21))=w7 at *;have e2:=hp7.blk.cell' (i:=2) rfl;have atU:=hp7.blk.lt;have HZ4:=hide HB4.out.lt;generalize hgd:w6.heap.size=gd at *;obtain⟨D,hown,hT,hD,hf⟩:=hp7.data;have HP7:=hide hp7;have HB7:=hide hb7;have HG7:=hide hg7;have ap1:=hide PZ;have HO7:=hide ho7;have HX7:=hide hx7;have HZ7:=hide hz7;have HFD:=hide hf;have HDM:=hide hD;clear hp7 hb7 hg7 PZ ho7 hx7 hxa e1 y1 f1 aw3 atT hf hD hT
 go_wp2_with (first
  | (at_range; refine wpList_range_own _ rfl _ 156 rfl 3 21 kN Tryz.underlying156 _ p1.md p1.nd D rfl hown ?_; intro w8 hrg0 hg0 hs0)
  | fail)
 have hc8:ah w7 w8 []:=ah.fZ hg0 (by simp);have HC8:=hide hc8;generalize hr7:w7.heap.size=r at *;obtain rfl:r=gd+1:=by have:=HZ7.out; omega
 have hqr:qm<gd:=by have:=DV.out.lt; omega
 have hg8:=HG7.out.aj hc8 (by simp)
 have hst:zeros (.int .i32 0) s.used=bG (o9 s (Maps.has D)):=(VB s (fun a ha=>by
  have h1:=(HFD.out (.int .i64 (a:Int)) trivial).1;rw [ha] at h1;have h1:((findD s.data (a:Int)).map (Lit.int .i32)).isSome=false:=h1.symm
  cases hx:findD s.data (a:Int) with
  | none=>rfl
  | some y=>rw [hx] at h1; cases h1)).symm
 rw [hst] at hg8;have HG8:=hide hg8;clear hc8 hg8 hst hg0 hs0 e2 hown hmk;go_frame;go_loopw [4,5] (fun _ _ wr=>∃(left:Lit->Bool) (cnt:Nat),wr.ranges Tryz.prog 3 (plainElem Tryz.prog 21) p1.md (gd+1) p1.nd D left cnt/\Hid (ah w8 wr [gd,gd+1])/\Hid (aC wr gd 21 (bG (o9 s left)))/\Hid (∀ kl,left kl=true->Maps.has D kl=true)) (fun _ _ wr=>wr.rangeLeft p1.md (gd+1))
 case atStart=>exact⟨_,_,hrg0,hide (ah.refl _ _),HG8,hide fun _ h=>h⟩
 case round =>
  obtain⟨left,cnt,hrg,HR,HG,HL2⟩:=hrel;go_wp2_with (at_next; refine wpList_next_ranges_ii _ rfl _ rfl 3 21 .i64 .i32 kN Tryz.underlying3 Tryz.underlying21 p1.md (gd+1) p1.nd _ _ _ rfl hrg ?_ ?_)
  . intro _ hl0
    have VF:ah w7 wr [gd]:=(HC8.out.more (D':=[gd]) (by simp)).trans HR.out (fun k hk=>by
     simp at hk;rcases hk with rfl | rfl
     . exact .inl (by simp)
     . exact .inr (by have:=HZ7.out; omega))
    have ayT:w.heap.size<qm:=by have:=apN.out; omega
    have n1:w.heap.size∉[qm]:=by simp; omega
    have n2:w.heap.size∉[gd]:=by simp; omega
    have aix:=((((ZL.out.aj HC2.out (by simp)).aj jC.out (by simp)).aj HX4.out n1).aj jD.out (by simp)).aj HX6.out n1;have aiy:=aix.aj HX7.out n1;have hb2:=aiy.aj VF n2;have hbq:=HB7.out.aj VF (by simp; omega);have x0:=hbq.cell' (i:=0) rfl;have x1:=hbq.cell' (i:=1) rfl;have x2:=hbq.cell' (i:=2) rfl;have x3:=hbq.cell' (i:=3) rfl;have x4:=hbq.cell' (i:=4) rfl;have v0:=hb2.cell' (i:=0) rfl;have v1:=hb2.cell' (i:=1) rfl;have v2:=hb2.cell' (i:=2) rfl;have v3:=hb2.cell' (i:=3) rfl;have v4:=hb2.cell' (i:=4) rfl;have k0:=hb2.frozen 0;have k1:=hb2.frozen 1;have k2:=hb2.frozen 2;have k3:=hb2.frozen 3;have k4:=hb2.frozen 4;have hblt:=hb2.lt;have HB2:=hide hb2;have ayU:=hide aix;have aw4:=hide aiy;have HWR:=hide VF;have HL0:=hide hl0;clear hb2 aix aiy VF hbq hl0 hrg atU n1 n2;go_wp2;have hfb:=((((HB2.out.aK 0 (.slice Ac (jH l).length cc)).aK 1 (.slice (some ⟨gd,0,none⟩) s.used s.used)).aK 2 (.slice As (dW s.rr.reverse).length cs)).aK 3 (.slice Ai s.ri.length ci)).aK 4 (.slice Ao s.ro.length co);have hcf:ah wr (((((wr.setCell ⟨w.heap.size,0,none⟩ (.slice Ac (jH l).length cc)).setCell ⟨w.heap.size,1,none⟩ (.slice (some ⟨gd,0,none⟩) s.used s.used)).setCell ⟨w.heap.size,2,none⟩ (.slice As (dW s.rr.reverse).length cs)).setCell ⟨w.heap.size,3,none⟩ (.slice Ai s.ri.length ci)).setCell ⟨w.heap.size,4,none⟩ (.slice Ao s.ro.length co)) [w.heap.size]:=((((((ah.refl wr [w.heap.size]).setCell _ _ (.inl (List.mem_singleton.2 rfl))).setCell _ _ (.inl (List.mem_singleton.2 rfl))).setCell _ _ (.inl (List.mem_singleton.2 rfl))).setCell _ _ (.inl (List.mem_singleton.2 rfl))).setCell _ _ (.inl (List.mem_singleton.2 rfl)))
    refine bodyPost_ret (v:=.agg #[.slice Ac (jH l).length cc,.slice (some ⟨gd,0,none⟩) s.used s.used,.slice As (dW s.rr.reverse).length cs,.slice Ai s.ri.length ci,.slice Ao s.ro.length co]) (results_cell_row rfl _ _ w.heap.size 66 _ (0,0) _ rfl hfb Tryz.underlying66 rfl (by kernel_rfl)) rfl ?_;generalize (((((wr.setCell ⟨w.heap.size,0,none⟩ (.slice Ac (jH l).length cc)).setCell ⟨w.heap.size,1,none⟩ (.slice (some ⟨gd,0,none⟩) s.used s.used)).setCell ⟨w.heap.size,2,none⟩ (.slice As (dW s.rr.reverse).length cs)).setCell ⟨w.heap.size,3,none⟩ (.slice Ai s.ri.length ci)).setCell ⟨w.heap.size,4,none⟩ (.slice Ao s.ro.length co))=wf at *;have ayV:=HC2.out.size;have ayW:=jC.out.size;have ayX:=HX4.out.size;have ayY:=jD.out.size;have ayZ:=HX6.out.size;have hzx:=HB4.out.lt;have Gq:ah w7 wf [gd,w.heap.size]:=(HWR.out.more (D':=[gd,w.heap.size]) (fun k hk=>.inl (by simp at hk ⊢; exact .inl hk))).trans hcf (fun k hk=>.inl (by simp at hk ⊢; exact .inr hk))
    have hcA:ah w w7 (p.foot b.a):=by
     have h1:ah w1 w7 []:=(((((HC2.out.trans jC.out (by simp)).trans HX4.out (fun k hk=>by simp at hk; exact .inr (by omega))).trans jD.out (by simp)).trans HX6.out (fun k hk=>by simp at hk; exact .inr (by omega))).trans HX7.out (fun k hk=>by simp at hk; exact .inr (by omega)))
     exact bZ.out.trans h1 (by simp)
    refine⟨_,rfl,hcA.trans Gq (fun k hk=>?_),⟨_,_,_,_,_,rfl,?_,?_,?_,?_,?_⟩,?far⟩
    case far =>
     intro c d se i o e u hu A m k hA;injection e with e;simp only [Array.mk.injEq,List.cons.injEq,and_true] at e;obtain⟨rfl,rfl,rfl,rfl,rfl⟩:=e;have ay0:=bZ.out.size;have hz5:=apN.out;have hbk:∀ x,x∈p1.foot b.a->x∈p.foot b.a\/w.heap.size<=x:=fun x hx=>(fJ.out x hx).imp_right fun h=>by rw [size_alloc] at h; omega
     simp only [List.mem_cons,List.not_mem_nil,or_false] at hu;rcases hu with rfl | rfl | rfl | rfl | rfl
     . have:=aw1.out A m k hA
       exact .inr (by omega)
     . injection hA with hA
       injection hA with hA;subst hA;have:=HZ4.out;exact .inr (by show w.heap.size<=gd; omega)
     . injection hA with hA
       have:=(HO6.out.lt A.block (by rw [hA]; rfl)).1;exact .inr (by omega)
     . injection hA with he1
       exact hbk _ (KP.bg (i:=7) (by show A.block∈p1.iv.ownBlock.toList; rw [HAI.out,he1]; simp [Value.ownBlock]))
     . injection hA with he1
       exact hbk _ (KP.bg (i:=8) (by show A.block∈p1.ov.ownBlock.toList; rw [HAO.out,he1]; simp [Value.ownBlock]))
    . simp at hk
      rcases hk with rfl | rfl
      . exact .inr (by have:=bZ.out.size; omega)
      . exact .inr (Nat.le_refl _)
    . refine ap1.out.bJ Gq (fun h0 A n c he hm=>?_)
      have yF:=sN aw4.out ap1.out (fun u hu hx=>by
       obtain⟨y,_,rfl⟩:=List.mem_map.1 hx
       simp at hu) h0 A n c he
      simp at hm yF;rcases hm with hm | hm
      . have h6:=VE.out
        rw [he] at h6;obtain⟨b',off,hA,_,hlt'⟩:=h6.at_ (k:=0) (List.getElem?_eq_getElem h0);injection hA with hA;subst hA;simp at hm;omega
      . exact yF hm
    . have hgf:=(HG.out.aj hcf (by simp; omega))
      rw [ab8 s HL0.out] at hgf;have hlen:s.used=(bG (Jl s)).length:=by simp [bG,Jl]
      exact Sl.blk' hgf hlen (Nat.le_refl _)
    . refine(Sl.own HO7.out).aj Gq (fun A n c he hm=>?_)
      injection he with he1 he2 he3;have hob:(Value.slice As (dW s.rr.reverse).length cs).ownBlock=some A.block:=by rw [he1]; rfl
      have h1:=HO6.out.lt A.block hob;simp at hm;omega
    . have aiz : Sl w7 (.slice Ai s.ri.length ci) (ints s.ri.reverse) := by
       have:=Sl.own HP7.out.inn;rw [HAI.out] at this;exact this
      refine aiz.aj Gq (fun A n c he hm=>?_);injection he with he1 he2 he3;have hob:A.block∈p1.foot b.a:=KP.bg (i:=7) (by show A.block∈p1.iv.ownBlock.toList; rw [HAI.out,he1]; simp [Value.ownBlock]);have h1:=ZB.out.flt _ hob;simp at hm;rcases hm with hm | hm
      . omega
      . exact apM.out (hm▸hob)
    . have aiz : Sl w7 (.slice Ao s.ro.length co) (ints s.ro.reverse) := by
       have:=Sl.own HP7.out.out;rw [HAO.out] at this;exact this
      refine aiz.aj Gq (fun A n c he hm=>?_);injection he with he1 he2 he3;have hob:A.block∈p1.foot b.a:=KP.bg (i:=8) (by show A.block∈p1.ov.ownBlock.toList; rw [HAO.out,he1]; simp [Value.ownBlock]);have h1:=ZB.out.flt _ hob;simp at hm;rcases hm with hm | hm
      . omega
      . exact apM.out (hm▸hob)
  . intro x c w9 cnt1 hwx hwc hlx hat hrg1 hlt1 hg1 hs1 hen
    have VG:ah wr w9 [gd+1]:=ah.fZ hg1 (fun k hk=>by injection hk with hk; exact .inl (by subst hk; simp))
    have hfx:findD s.data x=some c:=by
     obtain⟨h1,h2⟩:=HFD.out (.int .i64 x) trivial;rw [HL2.out _ hlx] at h1;have h1:true=((findD s.data x).map (Lit.int .i32)).isSome:=h1;have h2:∀ z,D.atKey (.int .i64 x) (.lit z)=.lit (((findD s.data x).map (Lit.int .i32)).getD z):=h2
     cases hx:findD s.data x with
     | none=>rw [hx] at h1; cases h1
     | some y =>
      rw [hx] at h2;have h3:=(h2 (.int .i32 0)).symm.trans (hat _);simp at h3;rw [h3]
    obtain⟨q,hq,hqx⟩:=aff hfx;have hqu:=HQ5.out q hq;obtain⟨a,rfl⟩:∃ a:Nat,x=(a:Int):=⟨q.1,hqx.symm⟩
    have hqa:q.1=a:=by omega
    rw [hqa] at hqu;have HFX:=hide hfx
    have VF:ah w7 wr [gd]:=(HC8.out.more (D':=[gd]) (by simp)).trans HR.out (fun k hk=>by
     simp at hk;rcases hk with rfl | rfl
     . exact .inl (by simp)
     . exact .inr (by have:=HZ7.out; omega))
    have VH:=HG.out.aj VG (by simp);have ap6:=(HB7.out.aj VF (by simp; omega)).aj VG (by simp; omega);have x1:=ap6.cell' (i:=1) rfl;have hln:a<(o9 s left).length:=by rw [ab7]; exact hqu
    have xa:=VH.cell' (Pj _ a hln);have fa:=VH.frozen a;have hgl:=VH.lt;have hia:decide ((a:Int)<0)=false:=decide_eq_false (by omega);have hib:decide ((a:Int)<(s.used:Int))=true:=decide_eq_true (by omega);have HG9:=hide VH;have ZM:=hide VG;have HRG:=hide hrg1;have aw5:=hide hrg;have qM:=hide hlt1
    have hne1:some p1.md≠some gd:=fun e=>by
     injection e with e;have:=ZB.out.flt p1.md (KP.bg (i:=3) (by simp [KP.part]));omega
    clear VH ap6 VF VG hfx hrg1 hrg hlt1 hg1 hq hqx hlx hat;go_wp2;go_roundw
    case rel =>
     refine⟨_,cnt1,HRG.out.kept (grown_setCell _ _ _ _) hne1 (by simp),hide ((HR.out.trans (ZM.out.more (D':=[gd,gd+1]) (fun k hk=>.inl (by simp at hk ⊢; exact .inr hk))) (fun k hk=>.inl hk)).setCell ⟨gd,a,none⟩ _ (.inl (by simp))),hide ?_,hide ?_⟩
     . rw [YR s hqu HFX.out,Ug]
       exact HG9.out.aK a (.int .i32 c)
     . intro kl hkl
       simp only [Bool.and_eq_true] at hkl;exact HL2.out kl hkl.1
    case measure =>
     rw [(HRG.out.kept (grown_setCell _ gd a (.int .i32 c)) hne1 (by simp)).left_eq,aw5.out.left_eq];exact qM.out
end
end

namespace Xi
open Go Go.RowKit Ab
theorem xg{w:World}{g:Nat}{t t':TypeId}{l l':List Value}(h:aC w g t l)(h':aC w g t' l'):l=l':=by
 unfold aC at h h';rw [h] at h';injection h' with h';injection h' with h';have:=congrArg Array.toList h'
 simpa using this
theorem PB.uniq{w:World}{b:Nat}{bm bm':BM}{F F':List Nat}(h:PB w b bm F)(h':PB w b bm' F'):F=F':=by
 obtain⟨t,m,cv,uv,n,hp,rfl,_⟩:=h;obtain⟨t',m',cv',uv',n',hp',rfl,_⟩:=h';have e:=xg hp.blk hp'.blk;simp at e;obtain⟨rfl,rfl⟩:=e;have e:=xg hp.tab.blk hp'.tab.blk;simp at e;obtain⟨rfl,rfl⟩:=e;rfl
theorem KR.uniq{w:World}{b:MP}{s s':KS}{F F':List Nat}(h:KR w b s F)(h':KR w b s' F'):F=F':=by
 obtain⟨p,hp,_,rfl⟩:=h;obtain⟨p',hp',_,rfl⟩:=h';have e:=xg hp.blk hp'.blk;simp at e;obtain⟨e1,e2,e3,e4,e5,e6,e7,e8,e9,e10⟩:=e;have hb:=hp.nK;rw [e1] at hb;have f1:=PB.uniq hb hp'.nK;have hpl:=hp.plan.blk;rw [e2] at hpl;have e:=xg hpl hp'.plan.blk;simp at e;unfold KP.foot;rw [f1,e2,e3,e4,e5,e6,e9,e10,e.2]
open Classical in
noncomputable def VI (b:MP) (s:KS) (w:World):List Nat:=if h:∃ F,KR w b s F then h.choose else []
theorem jd{b:MP}{s:KS}{w:World}{F:List Nat}(h:KR w b s F):VI b s w=F:=by
 unfold VI;rw [dif_pos ⟨F,h⟩];exact KR.uniq (Exists.choose_spec (⟨F,h⟩:∃ F,KR w b s F)) h
theorem Fr.afk {w w':World} {D:Nat->Prop} (h:Fr w w' D):∃ L:List Nat,ah w w' L/\∀ k∈L,D k:=by
 classical
 refine⟨(List.range w.heap.size).filter fun k=>decide (D k),⟨h.os,h.tape,h.output,h.size,fun k hk hn=>h.block k hk fun hd=>hn ?_⟩,fun k hk=>?_⟩
 . simp [List.mem_filter,hk,hd]
 . have:=(List.mem_filter.1 hk).2
   simpa using this
def Same(G:Nat->Option Obj)(w:World):Prop:=∀ g,g<11->w.heap[g]?=G g
theorem Same.aj{G:Nat->Option Obj}{w w':World}{L:List Nat}(h:Same G w)(hz:11<=w.heap.size)(hc:ah w w' L)(hL:∀ k∈L,11<=k):Same G w':=fun g hg=>by
 rw [hc.block g (by omega) (fun hm=>by have:=hL g hm; omega)];exact h g hg
def EZ(G:Nat->Option Obj)(X:List Nat)(w:World):Prop:=∀ g∈X,g<w.heap.size/\w.heap[g]?=G g
def VJ(X:List Nat):List Nat:=List.range 11++X
theorem EZ.aj{G:Nat->Option Obj}{X:List Nat}{w w':World}{L:List Nat}(h:EZ G X w)(hc:ah w w' L)(hL:∀ g∈X,g∉L):EZ G X w':=fun g hg=>by
 obtain⟨h1,h2⟩:=h g hg;exact⟨Nat.lt_of_lt_of_le h1 hc.size,(hc.block g h1 (hL g hg)).trans h2⟩
theorem P6{F1 F:List Nat}{w:World}{R:List Nat}(hs:Sub F1 F w):∀ k∈F1++R,k∈F++R\/w.heap.size<=k:=fun k hk=>by
 rcases List.mem_append.1 hk with hk | hk
 . exact(hs k hk).imp_left (List.mem_append_left _)
 . exact .inl (List.mem_append_right _ hk)
theorem VK{G:Nat->Option Obj}{X:List Nat}{w w':World}{F:List Nat}(hf:Fr w w' (·∈F++VJ X))(h:Same G w)(h':Same G w')(hx:EZ G X w)(hx':EZ G X w'):ah w w' F :=
 ⟨hf.os,hf.tape,hf.output,hf.size,fun k hk hn=>by
   by_cases hq:k<11
   . rw [h k hq,h' k hq]
   . by_cases hX:k∈X
     . rw [(hx k hX).2,(hx' k hX).2]
     . exact hf.block k hk (fun hm=>by
        rcases List.mem_append.1 hm with hm | hm
        . exact hn hm
        . rcases List.mem_append.1 hm with hm | hm
          . exact hq (List.mem_range.1 hm)
          . exact hX hm)⟩
theorem ah.ab9{w w':World}{F:List Nat}{R:List Nat}(h:ah w w' F):ah w w' (F++R):=h.more fun k hk=>.inl (List.mem_append_left _ hk)
theorem P7{X F F':List Nat}{w:World}{G:Nat->Option Obj}(hx:EZ G X w)(h:∀ g∈X,g∉F)(hs:Sub F' F w):∀ g∈X,g∉F':=fun g hg hm=>by
 have:=(hx g hg).1;rcases hs g hm with h1 | h1
 . exact h g hg h1
 . omega
noncomputable def qR (b:MP) (G:Nat->Option Obj) (X:List Nat):f_ Tryz.prog where
 σ:=KS
 I:=fun s w=>(∃ F,KR w b s F/\∀ g∈X,g∉F)/\Same G w/\EZ G X w
 fp:=fun s w=>VI b s w++VJ X
 lt:=fun s w ⟨⟨F,h,hX⟩,_,hS⟩ d hd=>by
  rw [jd h] at hd;rcases List.mem_append.1 hd with hd | hd
  . exact h.lt d hd
  . rcases List.mem_append.1 hd with hd | hd
    . have:=List.mem_range.1 hd; have:=h.jF.size; omega
    . exact(hS d hd).1
 keep:=fun s w w' D ⟨⟨F,h,hX⟩,hG,hS⟩ hf hD=>by
  rw [jd h] at hD;obtain⟨L,hc,hL⟩:=hf.afk
  have hq:∀ k∈L,11<=k:=fun k hk=>by
   have:=hD k (hL k hk);simp only [VJ,List.mem_append,List.mem_range,not_or] at this;omega
  have hx:∀ g∈X,g∉L:=fun g hg hm=>hD g (hL g hm) (List.mem_append_right _ (List.mem_append_right _ hg));have h':KR w' b s F:=h.aj hc (fun k hk hm=>hD k (hL k hm) (List.mem_append_left _ hk)) hq;exact⟨⟨⟨F,h',hX⟩,hG.aj h.jF.size hc hq,hS.aj hc hx⟩,by rw [jd h,jd h']⟩
 step:=fun s f cas v s'=>∀(w:World) (args:List Value) (F:List Nat),KR w b s F->b_ (F++VJ X) w args cas->Calls Tryz.prog f args.toArray w (iW v s' b F w)
 GN:=fun s f recv n i s1=>f=386/\recv=.pointer (some ⟨b.a,0,none⟩)/\∃ m:Nat,n=(m:Int)/\i=.int .i64 (s.used:Int)/\s1=s.GN m/\s.can 1=true/\1<=m/\m<=32767/\s.depth<=10
 fin:=fun s s2 f s'=>f=386/\s'=s2.fin (s.names+2)/\s2.depth=s.depth+1/\s2.nc<=799980
 step_ok:=fun s w f args cas v s' ⟨⟨F,h,hX⟩,hG,hS⟩ ha hs=>by
  rw [jd h] at ha;refine(hs w args F h ha).mono fun e w' hq=>?_;obtain⟨he,hc,F',hsub,hk⟩:=hq;refine⟨he,⟨⟨F',hk,P7 hS hX hsub⟩,hG.aj h.jF.size hc h.high,hS.aj hc hX⟩,?_,fun d hd=>?_⟩
  . rw [jd h]
    exact Fr.DC (ah.ab9 hc)
  . rw [jd hk] at hd
    rw [jd h];exact P6 hsub d hd
 I_:=fun s w f recv n i bf first cap s1 s2 s' ⟨⟨F,h,hX⟩,hG,hS⟩ hb hf hcl hbody=>by
  obtain⟨rfl,rfl,m,rfl,rfl,rfl,hcan,hm1,hm2,hd⟩:=hb;obtain⟨_,rfl,hd2,hn2⟩:=hf;have hnc:=(lU hcan).2.2;refine(YP h m bf first.toArray cap.toArray s2 hd hm1 hm2 hcan hnc hd2 (by omega) hcl fun w1 F1 hk1 hc1 hs1=>?_).mono fun e w' hq=>?_
  . have hG1:=hG.aj h.jF.size hc1 h.high
    have hS1:=hS.aj hc1 hX;have hX1:=P7 hS hX hs1
    have hb1:=hbody w1 ⟨⟨F1,hk1,hX1⟩,hG1,hS1⟩ (by rw [jd h]; exact Fr.DC (ah.ab9 hc1)) (fun d hd=>by
     rw [jd hk1] at hd;rw [jd h]
     exact P6 hs1 d hd)
    rw [show first.toArray++#[Value.int .i64 (s.used:Int)]++cap.toArray=(first++[Value.int .i64 (s.used:Int)]++cap).toArray by simp];refine hb1.mono fun e w2 hq=>?_;obtain⟨he,⟨⟨F2,hk2,hX2⟩,hG2,hS2⟩,hf2,hg2⟩:=hq;rw [jd hk1] at hf2 hg2;rw [jd hk2] at hg2;refine⟨he,VK hf2 hG1 hG2 hS1 hS2,F2,fun k hk=>?_,hk2⟩;rcases hg2 k (List.mem_append_left _ hk) with h1 | h1
    . rcases List.mem_append.1 h1 with h1 | h1
      . exact .inl h1
      . rcases List.mem_append.1 h1 with h1 | h1
        . have:=List.mem_range.1 h1; have:=hk2.high k hk; omega
        . exact absurd hk (hX2 k h1)
    . exact .inr h1
  . obtain⟨he,hc,F',hsub,hk⟩:=hq
    refine⟨he,⟨⟨F',hk,P7 hS hX hsub⟩,hG.aj h.jF.size hc h.high,hS.aj hc hX⟩,?_,fun d hd=>?_⟩
    . rw [jd h]
      exact Fr.DC (ah.ab9 hc)
    . rw [jd hk] at hd
      rw [jd h];exact P6 hsub d hd
inductive KA where
 | bare (p:Addr)
 | n (x:Nat)
 | c (x:Int)
 | li (l:List Int)
 | ln (l:List Nat)
def KA.Is (fp:List Nat) (w:World):KA->Value->Prop
 | .bare p,v=>v=.pointer (some p)
 | .n x,v=>v=.int .i64 (x:Int)
 | .c x,v=>v=.int .i32 x/\aB x
 | .li l,v=>Sl w v (bG l)/\∀ A n c,v=.slice (some A) n c->A.block∉fp
 | .ln l,v=>Sl w v (ints l)/\∀ A n c,v=.slice (some A) n c->A.block∉fp
def Jm (fp:List Nat) (w:World):List KA->List Value->Prop
 | [],[]=>True
 | a::l,v::vs=>a.Is fp w v/\Jm fp w l vs
 | _,_=>False
def J_ (ρ:List Nat):AV->Option Nat
 | .opq i=>nth ρ i
 | .lit (.int .i64 (.ofNat m))=>some m
 | _=>none
def xR:List AV->Option (List Int)
 | []=>some []
 | .lit (.int .i32 n)::l=>match xR l with | some r=>some (n::r) | none=>none
 | _=>none
def LK (ρ:List Nat):List AV->Option (List Nat)
 | []=>some []
 | a::l=>match J_ ρ a with
  | some x=>(match LK ρ l with | some xs=>some (x::xs) | none=>none)
  | none=>none
def pk1 (ρ:List Nat):EA->Option KA
 | .v (.lit (.pointer (some p)))=>some (.bare p)
 | .v (.lit (.int .i32 n))=>bif(Lit.int .i32 n).wf then some (.c n) else none
 | .v a=>match J_ ρ a with | some x=>some (.n x) | none=>none
 | .l cs=>match xR cs with
  | some l=>some (.li l)
  | none=>match LK ρ cs with
   | some l=>some (.ln l)
   | none=>none
def VQ (ρ:List Nat):List EA->Option (List KA)
 | []=>some []
 | a::l=>match pk1 ρ a,VQ ρ l with | some x,some xs=>some (x::xs) | _,_=>none
def oN:List KA->List Addr
 | []=>[]
 | .bare p::l=>p::oN l
 | _::l=>oN l
def lM(ρ:List Nat)(ρF:Nat->Value):Prop:=∀(i x:Nat),ρ[i]?=some x->ρF i=.int .i64 (x:Int)
theorem lM.of_append{ρ τ:List Nat}{ρF:Nat->Value}(h:lM (ρ++τ) ρF):lM ρ ρF:=fun i v hv=>h i v (by
 have:=(List.getElem?_eq_some_iff.1 hv).1
 rw [List.getElem?_append_left this]; exact hv)
theorem NS{ρ:List Nat}{ρF:Nat->Value}(hF:lM ρ ρF){a:AV}{x:Nat}(h:J_ ρ a=some x):a.aA (E0 ρF)=.int .i64 (x:Int):=by
 unfold J_ at h;split at h
 . rw [nD] at h
   exact hF _ x h
 . injection h with h
   subst h;rfl
 . cases h
theorem afn{ρF:Nat->Value}:∀ {l:List AV} {r:List Int},xR l=some r->ay (E0 ρF) l=bG r
 | [],r,h=>by unfold xR at h; injection h with h; subst h; rfl
 | .lit v::l,r,h=>by
  cases v with
  | int k n =>
   cases k with
   | i32 =>
    unfold xR at h
    cases hl:xR l with
    | none=>rw [hl] at h; cases h
    | some q =>
     rw [hl] at h;injection h with h;subst h;have:=afn (ρF:=ρF) hl;show Value.int .i32 n::ay (E0 ρF) l=Value.int .i32 n::bG q;rw [this]
   | _=>unfold xR at h; cases h
  | _=>unfold xR at h; cases h
 | .opq _::_,_,h=>by unfold xR at h; cases h
 | .ptr _ _::_,_,h=>by unfold xR at h; cases h
 | .slc _ _ _ _::_,_,h=>by unfold xR at h; cases h
 | .row _ _::_,_,h=>by unfold xR at h; cases h
 | .fn _ _ _::_,_,h=>by unfold xR at h; cases h
 | .qC _ _::_,_,h=>by unfold xR at h; cases h
 | .agg _::_,_,h=>by unfold xR at h; cases h
 | .jm _::_,_,h=>by unfold xR at h; cases h
theorem ZP{ρ:List Nat}{ρF:Nat->Value}(hF:lM ρ ρF):∀ {l:List AV} {r:List Nat},LK ρ l=some r->ay (E0 ρF) l=ints r
 | [],r,h=>by unfold LK at h; injection h with h; subst h; rfl
 | a::l,r,h=>by
  unfold LK at h
  cases h1:J_ ρ a with
  | none=>rw [h1] at h; cases h
  | some x =>
   rw [h1] at h;simp only [] at h
   cases h2:LK ρ l with
   | none=>rw [h2] at h; cases h
   | some xs =>
    rw [h2] at h;injection h with h;subst h;show a.aA (E0 ρF)::ay (E0 ρF) l=.int .i64 (x:Int)::ints xs;rw [NS hF h1,ZP hF h2]
theorem ZQ{n:Int}(h:(Lit.int .i32 n).wf=true):aB n:=by
 simp only [Lit.wf,IntKind.min,IntKind.max,IntKind.signed,IntKind.bits] at h;simp at h;unfold aB;omega
theorem ap8{ρ:List Nat}{ρF:Nat->Value}(hF:lM ρ ρF){fp:List Nat}{w:World}{v:Value}{a:EA}{m:KA}(h:pk1 ρ a=some m)(hv:MR fp w v (a.aA (E0 ρF))):m.Is fp w v:=by
 unfold pk1 at h;split at h
 . injection h with h
   subst h;exact hv
 . rename_i n
   cases hw:(Lit.int .i32 n).wf with
   | false=>rw [hw] at h; cases h
   | true =>
    rw [hw] at h;injection h with h;subst h;exact⟨hv,ZQ hw⟩
 . rename_i a' _ _
   cases hp:J_ ρ a' with
   | none=>rw [hp] at h; cases h
   | some x =>
    rw [hp] at h;injection h with h;subst h;have e:v=a'.aA (E0 ρF):=hv;rw [NS hF hp] at e;exact e
 . rename_i cs
   cases hp:xR cs with
   | none =>
    rw [hp] at h;simp only [] at h
    cases hq:LK ρ cs with
    | none=>rw [hq] at h; cases h
    | some l =>
     rw [hq] at h;injection h with h;subst h;obtain⟨h1,h2⟩:=hv;rw [ZP hF hq] at h1;exact⟨h1,h2⟩
   | some l =>
    rw [hp] at h;injection h with h;subst h;obtain⟨h1,h2⟩:=hv;rw [afn hp] at h1;exact⟨h1,h2⟩
theorem VR{ρ:List Nat}{ρF:Nat->Value}(hF:lM ρ ρF){fp:List Nat}{w:World}:∀ {l:List EA} {us:List KA} {args:List Value},VQ ρ l=some us->b_ fp w args (l.map (EA.aA (E0 ρF)))->Jm fp w us args
 | [],us,args,h,ha=>by
  unfold VQ at h; injection h with h; subst h
  cases args with
  | nil=>trivial
  | cons _ _=>exact ha.elim
 | a::l,us,args,h,ha=>by
  unfold VQ at h
  cases h1:pk1 ρ a with
  | none=>rw [h1] at h; cases h
  | some x =>
   cases h2:VQ ρ l with
   | none=>rw [h1,h2] at h; cases h
   | some ys =>
    rw [h1,h2] at h;injection h with h;subst h
    cases args with
    | nil=>exact ha.elim
    | cons v vs=>exact⟨ap8 hF h1 ha.1,VR hF h2 ha.2⟩
def ace {γ:Type} (f:FuncId) (us:List KA) (s:KS) (k:Option Nat->KS->Option γ):Option γ :=
 bif Nat.beq f 384 then(match us with | [.bare _,.n op,.n a,.n c]=>opR s op a c none fun x s'=>k (some x) s' | _=>none)
 else bif Nat.beq f 383 then(match us with | [.bare _,.c n]=>Vg s n none fun x s'=>k (some x) s' | _=>none)
 else bif Nat.beq f 85 then(match us with | [.bare _,.n v]=>TG s v none fun x s'=>k (some x) s' | _=>none)
 else bif Nat.beq f 53 then(match us with | [.bare _,.n v]=>TG s v none fun x s'=>k (some x) s' | _=>none)
 else bif Nat.beq f 57 then(match us with | [.bare _,.n c,.n v]=>aie s c v none fun s'=>k none s' | _=>none)
 else bif Nat.beq f 382 then(match us with | [.bare _,.n t,.n i]=>atR s t i none fun x s'=>k (some x) s' | _=>none)
 else bif Nat.beq f 387 then(match us with | [.bare _,.li l]=>VN s l none fun x s'=>k (some x) s' | _=>none)
 else bif Nat.beq f 385 then(match us with | [.bare _,.ln l]=>acd s l none fun x s'=>k (some x) s' | _=>none)
 else none
def ovK:Option Nat->Value
 | some x=>.int .i64 (x:Int)
 | none=>.tuple #[]
theorem ka2{fp:List Nat}{w:World}{a c:KA}{args:List Value}(h:Jm fp w [a,c] args):∃ v1 v2,args=[v1,v2]/\a.Is fp w v1/\c.Is fp w v2:=by
 match args,h with
 | [v1,v2],⟨h1,h2,_⟩=>exact⟨v1,v2,rfl,h1,h2⟩
theorem ka3{fp:List Nat}{w:World}{a c d:KA}{args:List Value}(h:Jm fp w [a,c,d] args):∃ v1 v2 v3,args=[v1,v2,v3]/\a.Is fp w v1/\c.Is fp w v2/\d.Is fp w v3:=by
 match args,h with
 | [v1,v2,v3],⟨h1,h2,h3,_⟩=>exact⟨v1,v2,v3,rfl,h1,h2,h3⟩
theorem ka4{fp:List Nat}{w:World}{a c d e:KA}{args:List Value}(h:Jm fp w [a,c,d,e] args):∃ v1 v2 v3 v4,args=[v1,v2,v3,v4]/\a.Is fp w v1/\c.Is fp w v2/\d.Is fp w v3/\e.Is fp w v4:=by
 match args,h with
 | [v1,v2,v3,v4],⟨h1,h2,h3,h4,_⟩=>exact⟨v1,v2,v3,v4,rfl,h1,h2,h3,h4⟩
theorem aiB{γ:Type}{b:MP}{R:List Nat}{f:FuncId}{us:List KA}{s:KS}{k:Option Nat->KS->Option γ}{y:γ}(h:ace f us s k=some y) :
 ∃ o s',k o s'=some y/\((∀ p∈oN us,p=⟨b.a,0,none⟩)->∀(w:World) (args:List Value) (F:List Nat),KR w b s F->Jm (F++R) w us args->Calls Tryz.prog f args.toArray w (iW (ovK o) s' b F w)):=by
 unfold ace at h
 cases h1:Nat.beq f 384 with
 | true =>
  rw [h1] at h;obtain rfl:=beq_iff.1 h1;simp only [cond_true] at h;split at h
  . rename_i p op a c
    obtain⟨g1,g2,g3,g4,g5,g6⟩:=aoV h;refine⟨_,_,g6,fun hp w args F hk ha=>?_⟩;obtain rfl:=hp p (by simp [oN]);obtain⟨v1,v2,v3,v4,rfl,rfl,rfl,rfl,rfl⟩:=ka4 ha;exact air hk op a c g2 g3 g4 g5 g1
  . cases h
 | false =>
 rw [h1] at h
 cases h2:Nat.beq f 383 with
 | true =>
  rw [h2] at h;obtain rfl:=beq_iff.1 h2;simp only [cond_true,cond_false] at h;split at h
  . rename_i p n
    obtain⟨g1,g2⟩:=aeQ h;refine⟨_,_,g2,fun hp w args F hk ha=>?_⟩;obtain rfl:=hp p (by simp [oN]);obtain⟨v1,v2,rfl,rfl,rfl,hn⟩:=ka2 ha;exact YM hk n hn g1
  . cases h
 | false =>
 rw [h2] at h
 cases h3:Nat.beq f 85 with
 | true =>
  rw [h3] at h;obtain rfl:=beq_iff.1 h3;simp only [cond_true,cond_false] at h;split at h
  . rename_i p v
    obtain⟨g1,g2,g3⟩:=Vh h;refine⟨_,_,g3,fun hp w args F hk ha=>?_⟩;obtain rfl:=hp p (by simp [oN]);obtain⟨v1,v2,rfl,rfl,rfl⟩:=ka2 ha;exact NJ hk v g2 g1
  . cases h
 | false =>
 rw [h3] at h
 cases h4:Nat.beq f 53 with
 | true =>
  rw [h4] at h;obtain rfl:=beq_iff.1 h4;simp only [cond_true,cond_false] at h;split at h
  . rename_i p v
    obtain⟨g1,g2,g3⟩:=Vh h;refine⟨_,_,g3,fun hp w args F hk ha=>?_⟩;obtain rfl:=hp p (by simp [oN]);obtain⟨v1,v2,rfl,rfl,rfl⟩:=ka2 ha;exact Rh hk v g2 g1
  . cases h
 | false =>
 rw [h4] at h
 cases h5:Nat.beq f 57 with
 | true =>
  rw [h5] at h;obtain rfl:=beq_iff.1 h5;simp only [cond_true,cond_false] at h;split at h
  . rename_i p c v
    obtain⟨g1,g2,g3,g4⟩:=aml h;refine⟨_,_,g4,fun hp w args F hk ha=>?_⟩;obtain rfl:=hp p (by simp [oN]);obtain⟨v1,v2,v3,rfl,rfl,rfl,rfl⟩:=ka3 ha;exact ES hk c v g3 g2 (by have:=(lU g1).2.2; omega)
  . cases h
 | false =>
 rw [h5] at h
 cases h6:Nat.beq f 382 with
 | true =>
  rw [h6] at h;obtain rfl:=beq_iff.1 h6;simp only [cond_true,cond_false] at h;split at h
  . rename_i p t i
    obtain⟨g1,g2,a,g3,g4,g5⟩:=ap7 h;refine⟨_,_,g5,fun hp w args F hk ha=>?_⟩;obtain rfl:=hp p (by simp [oN]);obtain⟨v1,v2,v3,rfl,rfl,rfl,rfl⟩:=ka3 ha;exact afm hk t i a g3 g4 g2 g1
  . cases h
 | false =>
 rw [h6] at h
 cases h7:Nat.beq f 387 with
 | true =>
  rw [h7] at h;obtain rfl:=beq_iff.1 h7;simp only [cond_true,cond_false] at h;split at h
  . rename_i p l
    obtain⟨g1,g2,g3,g4⟩:=afl h;refine⟨_,_,g4,fun hp w args F hk ha=>?_⟩;obtain rfl:=hp p (by simp [oN]);obtain⟨v1,v2,rfl,rfl,hs,hd⟩:=ka2 ha;exact VP hk hs (fun A n c e hm=>hd A n c e (List.mem_append_left _ hm)) (fun x hx=>ZQ (g3 x hx)) g2 g1
  . cases h
 | false =>
 rw [h7] at h
 cases h8:Nat.beq f 385 with
 | true =>
  rw [h8] at h;obtain rfl:=beq_iff.1 h8;simp only [cond_true,cond_false] at h;split at h
  . rename_i p l
    obtain⟨g1,g2,g3,g4,g5⟩:=aiA h;refine⟨_,_,g5,fun hp w args F hk ha=>?_⟩;obtain rfl:=hp p (by simp [oN]);obtain⟨v1,v2,rfl,rfl,hs,hd⟩:=ka2 ha;exact YS hk hs (fun A n c e hm=>hd A n c e (List.mem_append_left _ hm)) g3 g2 g1 g4
  . cases h
 | false =>
 rw [h8] at h;simp only [cond_false] at h;cases h
def E5(r:AV)(n:Int):Option (Addr×Nat):=match r with
 | .lit (.pointer (some p))=>(match n with | .ofNat m=>some (p,m) | _=>none)
 | _=>none
theorem YT{r:AV}{n:Int}{p:Addr}{m:Nat}(h:E5 r n=some (p,m)):r=.lit (.pointer (some p))/\n=(m:Int):=by
 unfold E5 at h;split at h
 . split at h
   . injection h with h
     injection h with h1 h2;subst h1 h2;exact⟨rfl,rfl⟩
   . cases h
 . cases h
def runK {γ:Type}:Nat->List Ev->List Nat->List Addr->KS->(List Nat->List Addr->KS->Option γ)->Option γ
 | 0,_,_,_,_,_=>none
 | f+1,δ,ρ,ps,s,k=>match δ with
  | []=>k ρ ps s
  | .call g args out::l=>(match VQ ρ args with
   | some us=>ace g us s fun o s'=>(match o with
    | some x=>(match out with
     | .opq i=>bif Nat.beq i (aF ρ) then fL (ρ++[x]) fun ρ'=>runK f l ρ' (oN us++ps) s' k else none
     | _=>none)
    | none=>(match out with
     | .jm []=>runK f l ρ (oN us++ps) s' k
     | _=>none))
   | none=>none)
  | .loop g r n i body::l=>(match E5 r n with
   | some (p,m)=>bif Nat.beq g 386&&Nat.beq i (aF ρ) then aif s m none fun s1=>fL (ρ++[s.used]) fun ρ1=>runK f body ρ1 (p::ps) s1 fun ρ2 ps2 s2=>aii s2 s.depth (s.names+2) none fun s'=>runK f l ρ2 ps2 s' k else none
   | none=>none)
  | .yx _ _ _::_=>none
theorem afp{ρ:List Nat}{x:Nat}{ρF:Nat->Value}(h:lM (ρ++[x]) ρF):ρF (aF ρ)=.int .i64 (x:Int):=h _ _ (by unfold aF; simp)
theorem nO{γ:Type}{b:MP}{G:Nat->Option Obj}{X:List Nat}{y:γ}:∀(f:Nat) {δ:List Ev} {ρ:List Nat} {ps:List Addr} {s:KS} {k:List Nat->List Addr->KS->Option γ},runK f δ ρ ps s k=some y ->
 ∃ ρ' ps' s',k ρ' ps' s'=some y/\(∃ τ,ρ'=ρ++τ)/\(∃ σ,ps'=σ++ps)/\∀ ρF,(∀ p∈ps',p=⟨b.a,0,none⟩)->lM ρ' ρF->gX (qR b G X) ρF δ s s'
 | 0,δ,ρ,ps,s,k,h=>by unfold runK at h; cases h
 | f+1,[],ρ,ps,s,k,h=>⟨ρ,ps,s,h,⟨[],by simp⟩,⟨[],by simp⟩,fun _ _ _=>rfl⟩
 | f+1,.call g args out::l,ρ,ps,s,k,h=>by
  unfold runK at h;simp only [] at h
  cases hu:VQ ρ args with
  | none=>rw [hu] at h; cases h
  | some us =>
   rw [hu] at h;simp only [] at h;obtain⟨o,s1,hk,hc⟩:=aiB (b:=b) (R:=VJ X) h
   cases o with
   | some x =>
    simp only [] at hk;split at hk
    . rename_i i
      cases hi:Nat.beq i (aF ρ) with
      | false=>rw [hi] at hk; cases hk
      | true =>
       rw [hi] at hk;obtain rfl:=beq_iff.1 hi;simp only [cond_true,oG] at hk;obtain⟨ρ',ps',s',h1,⟨τ,rfl⟩,⟨σ,rfl⟩,h4⟩:=nO (b:=b) (G:=G) (X:=X) f hk;refine⟨_,_,s',h1,⟨x::τ,by simp⟩,⟨σ++oN us,by simp⟩,fun ρF hps hF=>⟨s1,?_,h4 ρF hps hF⟩⟩;show(qR b G X).step s g (args.map (EA.aA (E0 ρF))) (ρF (aF ρ)) s1;rw [afp hF.of_append];exact fun w xs F hkr hxs=>hc (fun p hp=>hps p (by simp [hp])) w xs F hkr (VR hF.of_append.of_append hu hxs)
    . cases hk
   | none =>
    simp only [] at hk;split at hk
    . obtain⟨ρ',ps',s',h1,⟨τ,rfl⟩,⟨σ,rfl⟩,h4⟩:=nO (b:=b) (G:=G) (X:=X) f hk
      refine⟨_,_,s',h1,⟨τ,rfl⟩,⟨σ++oN us,by simp⟩,fun ρF hps hF=>⟨s1,?_,h4 ρF hps hF⟩⟩;exact fun w xs F hkr hxs=>hc (fun p hp=>hps p (by simp [hp])) w xs F hkr (VR hF.of_append hu hxs)
    . cases hk
 | f+1,.yx _ _ _::l,ρ,ps,s,k,h=>by unfold runK at h; cases h
 | f+1,.loop g r n i body::l,ρ,ps,s,k,h=>by
  unfold runK at h;simp only [] at h
  cases hla:E5 r n with
  | none=>rw [hla] at h; cases h
  | some q =>
   obtain⟨p,m⟩:=q;rw [hla] at h;simp only [] at h;obtain⟨rfl,rfl⟩:=YT hla;have hq:=jX h;clear h hla;obtain⟨hc,h⟩:=hq;simp only [Bool.and_eq_true] at hc;obtain⟨hg,hi⟩:=hc;have hg:=beq_iff.1 hg;have hi:=beq_iff.1 hi;obtain⟨g1,g2,g3,g4,h⟩:=amm h;simp only [oG] at h;obtain⟨ρ2,ps2,s2,h,⟨τ,rfl⟩,⟨σ,rfl⟩,hb⟩:=nO (b:=b) (G:=G) (X:=X) f h;obtain⟨g5,g6,h⟩:=amn h;obtain⟨ρ',ps',s',h1,⟨τ',rfl⟩,⟨σ',rfl⟩,h4⟩:=nO (b:=b) (G:=G) (X:=X) f h;refine⟨_,_,s',h1,⟨s.used::(τ++τ'),by simp⟩,⟨σ'++σ++[p],by simp⟩,fun ρF hps hF=>⟨s2.fin (s.names+2),?_,h4 ρF hps hF⟩⟩;refine⟨s.GN m,s2,⟨hg,?_,m,rfl,?_,rfl,g1,g2,g3,g4⟩,hb ρF (fun q hq=>hps q (List.mem_append_right _ hq)) hF.of_append,⟨hg,rfl,g5,g6⟩⟩
   . rw [<- hps p (by simp)]
     rfl
   . rw [hi]
     exact afp hF.of_append.of_append
inductive KO where
 | one (x:Nat)
 | jm (l:List Nat)
 | arr (l:List Nat)
def iZ (x:Nat):Value:=.int .i64 (x:Int)
def KO.val:KO->Value
 | .one x=>iZ x
 | .jm l=>.tuple (l.map iZ).toArray
 | .arr l=>.agg (l.map iZ).toArray
def E8 (ρ:List Nat):List AV->Option (List Nat)
 | []=>some []
 | a::l=>match J_ ρ a,E8 ρ l with | some x,some xs=>some (x::xs) | _,_=>none
theorem P9{ρ:List Nat}{ρF:Nat->Value}(hF:lM ρ ρF):∀ {l:List AV} {xs:List Nat},E8 ρ l=some xs->ay (E0 ρF) l=xs.map iZ
 | [],xs,h=>by unfold E8 at h; injection h with h; subst h; rfl
 | a::l,xs,h=>by
  unfold E8 at h
  cases h1:J_ ρ a with
  | none=>rw [h1] at h; cases h
  | some x =>
   cases h2:E8 ρ l with
   | none=>rw [h1,h2] at h; cases h
   | some ys =>
    rw [h1,h2] at h;injection h with h;subst h;show a.aA (E0 ρF)::ay (E0 ρF) l=_;rw [NS hF h1,P9 hF h2];rfl
end Xi

namespace Xi
open Go Go.RowKit Ab
theorem aiC (a : Addr) (w : World) : (method 536 96 (.pointer (some a)) "Const").run Tryz.prog w = .ok (383, .pointer (some a)) w := by kernel_rfl
theorem atV (a : Addr) (w : World) : (method 536 96 (.pointer (some a)) "Do").run Tryz.prog w = .ok (384, .pointer (some a)) w := by kernel_rfl
theorem amS (a : Addr) (w : World) : (method 536 96 (.pointer (some a)) "Cell").run Tryz.prog w = .ok (85, .pointer (some a)) w := by kernel_rfl
theorem ap9 (a : Addr) (w : World) : (method 536 96 (.pointer (some a)) "Get").run Tryz.prog w = .ok (53, .pointer (some a)) w := by kernel_rfl
theorem ap_ (a : Addr) (w : World) : (method 536 96 (.pointer (some a)) "Set").run Tryz.prog w = .ok (57, .pointer (some a)) w := by kernel_rfl
theorem atW (a : Addr) (w : World) : (method 536 96 (.pointer (some a)) "At").run Tryz.prog w = .ok (382, .pointer (some a)) w := by kernel_rfl
theorem aiD (a : Addr) (w : World) : (method 536 96 (.pointer (some a)) "Table").run Tryz.prog w = .ok (387, .pointer (some a)) w := by kernel_rfl
theorem amT (a : Addr) (w : World) : (method 536 96 (.pointer (some a)) "Fill").run Tryz.prog w = .ok (385, .pointer (some a)) w := by kernel_rfl
theorem amU (a : Addr) (w : World) : (method 536 96 (.pointer (some a)) "Loop").run Tryz.prog w = .ok (386, .pointer (some a)) w := by kernel_rfl
def mtK (n:String):Option FuncId:=match n with
 | "Const" => some 383
 | "Do" => some 384
 | "Cell" => some 85
 | "Get" => some 53
 | "Set" => some 57
 | "Loop" => some 386
 | "At" => some 382
 | "Table" => some 387
 | "Fill" => some 385
 | _=>none
theorem acf:Tryz.prog.types.size+Made.depth=536:=by kernel_rfl
theorem aqa{n:String}{g:FuncId}(h:mtK n=some g)(a:Addr)(w:World):(method (Tryz.prog.types.size+Made.depth) 96 (.pointer (some a)) n).run Tryz.prog w=.ok (g,.pointer (some a)) w:=by
 rw [acf];unfold mtK at h;split at h
 . obtain rfl:=Option.some.inj h
   exact aiC a w
 . obtain rfl:=Option.some.inj h
   exact atV a w
 . obtain rfl:=Option.some.inj h
   exact amS a w
 . obtain rfl:=Option.some.inj h
   exact ap9 a w
 . obtain rfl:=Option.some.inj h
   exact ap_ a w
 . obtain rfl:=Option.some.inj h
   exact amU a w
 . obtain rfl:=Option.some.inj h
   exact atW a w
 . obtain rfl:=Option.some.inj h
   exact aiD a w
 . obtain rfl:=Option.some.inj h
   exact amT a w
 . cases h
noncomputable def cxK:Cx where
 P:=Tryz.prog
 ev:=fun f _ nv=>bif Nat.beq f 57 then some (.jm [],0) else bif Nat.beq f 384||(Nat.beq f 383||(Nat.beq f 85||(Nat.beq f 53||(Nat.beq f 382||(Nat.beq f 387||Nat.beq f 385))))) then some (.opq nv,1) else none
 lp:=fun f=>Nat.beq f 386
 mt:=fun t n=>bif Nat.beq t 96 then mtK n else none
 br:=fun _=>none
theorem afq:vZ cxK:=fun t n g h a w=>by
 have h':(bif Nat.beq t 96 then mtK n else none)=some g:=h
 cases ht:Nat.beq t 96 with
 | false=>rw [ht] at h'; cases h'
 | true =>
  rw [ht] at h';rw [beq_iff] at ht;subst ht;exact aqa h' a w
def NT (b:MP):AV:=.agg [.qC 96 (.lit (.pointer (some ⟨b.a,0,none⟩)))]
end Xi

section
open Go Go.RowKit Go.Deep Go.Maps Ab Xi
attribute [local go_sem] Oper.semAt_some
theorem acg(b:Nat)(w:World):Calls Tryz.prog 55 #[.pointer (some ⟨b,0,none⟩)] w fun e w'=>e=.returned (.agg #[.iface 96 (.pointer (some ⟨b,0,none⟩))])/\ah w w' []:=by
 go_enter Tryz.func55,Tryz.ntmps55
 go_wp2;have hb:=aC.new w 113 [.iface 96 (.pointer (some ⟨b,0,none⟩))];refine bodyPost_ret (v:=.agg #[.iface 96 (.pointer (some ⟨b,0,none⟩))]) (results_cell_row rfl _ _ w.heap.size 113 _ (0,0) _ rfl hb Tryz.underlying113 rfl (by kernel_rfl)) rfl ⟨rfl,(ah.refl w []).alloc _⟩
def aiE:List Value:=[.slice none 0 0,.slice none 0 0,.slice none 0 0,.slice none 0 0,.slice none 0 0]
theorem w_.far {w w':World} {v:Value} {code data:List Int} {sec:List Bool} {ins outs:List Nat} {q:Nat} (h:w_ w v code data sec ins outs) (hb:aC w q 66 aiE) (hc:ah w w' [q]):w_ w' v code data sec ins outs:=by
 obtain⟨c,d,se,i,o,rfl,h1,h2,h3,h4,h5⟩:=h;refine⟨c,d,se,i,o,rfl,h1.bJ hc (sN hb h1 ?_),h2.bJ hc (sN hb h2 ?_),h3.bJ hc (sN hb h3 ?_),h4.bJ hc (sN hb h4 ?_),h5.bJ hc (sN hb h5 ?_)⟩
 all_goals
  intro u hu hx;obtain⟨y,_,rfl⟩:=List.mem_map.1 hx;simp [aiE] at hu
end

namespace Xi
open Go Go.RowKit Ab
inductive KE where
 | num (x:Nat)
 | arr (l:List Nat)
 | sli (l:List Nat)
def KE.ca:KE->CA
 | .num x=>CA.v (iZ x)
 | .arr l=>CA.v (.agg (l.map iZ).toArray)
 | .sli l=>CA.l (l.map iZ)
def pke (ρ:List Nat):EA->Option KE
 | .v (.agg cs)=>match E8 ρ cs with | some l=>some (.arr l) | none=>none
 | .v a=>match J_ ρ a with | some x=>some (.num x) | none=>none
 | .l cs=>match E8 ρ cs with | some l=>some (.sli l) | none=>none
def Fe (ρ:List Nat):List EA->Option (List KE)
 | []=>some []
 | x::l=>match pke ρ x,Fe ρ l with | some y,some ys=>some (y::ys) | _,_=>none
theorem aqi{ρ:List Nat}{ρF:Nat->Value}(hF:lM ρ ρF){x:EA}{y:KE}(h:pke ρ x=some y):x.aA (E0 ρF)=y.ca:=by
 unfold pke at h;split at h
 . rename_i cs
   cases hl:E8 ρ cs with
   | none=>rw [hl] at h; cases h
   | some xs =>
    rw [hl] at h;injection h with h;subst h;show CA.v (.agg (ay (E0 ρF) cs).toArray)=_;rw [P9 hF hl];rfl
 . rename_i a _
   cases hl:J_ ρ a with
   | none=>rw [hl] at h; cases h
   | some xs =>
    rw [hl] at h;injection h with h;subst h;show CA.v (a.aA (E0 ρF))=_;rw [NS hF hl];rfl
 . rename_i cs
   cases hl:E8 ρ cs with
   | none=>rw [hl] at h; cases h
   | some xs =>
    rw [hl] at h;injection h with h;subst h;show CA.l (ay (E0 ρF) cs)=_;rw [P9 hF hl];rfl
theorem Z4{ρ:List Nat}{ρF:Nat->Value}(hF:lM ρ ρF):∀ {l:List EA} {ys:List KE},Fe ρ l=some ys->l.map (EA.aA (E0 ρF))=ys.map KE.ca
 | [],ys,h=>by unfold Fe at h; injection h with h; subst h; rfl
 | x::l,ys,h=>by
  unfold Fe at h
  cases h1:pke ρ x with
  | none=>rw [h1] at h; cases h
  | some y =>
   cases h2:Fe ρ l with
   | none=>rw [h1,h2] at h; cases h
   | some zs =>
    rw [h1,h2] at h;injection h with h;subst h;simp only [List.map_cons];rw [aqi hF h1,Z4 hF h2]
theorem b_.sub {fp fp':List Nat} {w:World} (hs:∀ k∈fp',k∈fp):∀ {l:List Value} {cs:List CA},b_ fp w l cs->b_ fp' w l cs
 | [],[],_=>trivial
 | a::l,.v x::cs,h=>⟨h.1,b_.sub hs h.2⟩
 | a::l,.l xs::cs,h=>⟨⟨h.1.1,fun A n c e hm=>h.1.2 A n c e (hs _ hm)⟩,b_.sub hs h.2⟩
 | [],_::_,h=>h.elim
 | _::_,[],h=>h.elim
theorem aqj(ρ:List Nat)(ss:List Value):lM ρ (ρS (ρ.map iZ) ss):=fun i x hx=>by
 have hi:i<ρ.length:=(List.getElem?_eq_some_iff.1 hx).1;unfold ρS;rw [if_pos (by simpa using hi),List.getD,List.getElem?_map,hx];rfl
theorem Wi{ρ:List Nat}:aF (ρ.map iZ)=aF ρ:=by unfold aF; simp
noncomputable def acn (vws:List (List AV)):Cx:={ cxK with vw:=Dj vws }
end Xi

section
open Go Go.RowKit Ab Xi
set_option maxRecDepth 100000
noncomputable def cxF:Cx:={ acn [bQ 20 0] with ev:=fun f args nv=>bif Nat.beq f 92 then some (.jm [.agg (bQ 4 nv),.opq (nv+4),.opq (nv+5)],6) else cxK.ev f args nv }
noncomputable def rF (b:MP):Option (AV×G×List Xi.Ev):=iK cxF 5000 54 [NT b,.lit (.int .i64 0),.vw 1000000 0 20,.agg (bQ 7 20)] ⟨.nil,0,27⟩
def acE (b:MP):List AV:=[NT b,.agg (bQ 4 0),.agg (bQ 3 4),.agg (bQ 3 7),.agg (bQ 3 10)]
noncomputable def rS (b:MP):Option (AV×G×List Xi.Ev):=iK (acn []) 5000 92 (acE b) ⟨.nil,0,13⟩
def dF(r:Option (AV×G×List Xi.Ev)):List Xi.Ev:=match r with | some (_,_,δ)=>δ | none=>[]
def acF(r:Option (AV×G×List Xi.Ev))(ρ:List Nat)(ps:List Addr)(s:KS):Option (Bool×List KE×List Nat×List Addr×KS):=match r with
 | some (v,g,_)=>(match xq g v with | some (t,xs)=>(match Fe ρ xs with | some os=>some (t,os,ρ,ps,s) | none=>none) | none=>none)
 | none=>none
end

namespace Xi
open Go Go.RowKit Ab
theorem Gt{b:MP}{cx:Cx}{fuel:Nat}{f:FuncId}{vws:List (List AV)}{args:List AV}{ins:List Nat}{s s':KS}{t:Bool}{os:List KE}(hP:cx.P=Tryz.prog)(fG:cx.P.follows .mixedOrders=true)(hmt:vZ cx)(hvw:cx.vw=Dj vws)
 {v:AV} {g':G} {δ:List Ev} {ρ τ:List Nat} {xs:List EA} (hc:iK cx fuel f args ⟨.nil,0,aF ins⟩=some (v,g',δ)) (hkk:(iE 0 args&&wM (aF ins) args&&okV (aF ins) vws)=true) (hτ:ρ=ins++τ) (hlen:Nat.ble (aF ρ) 1000000=true) (he:xq g' v=some (t,xs)) (hx:Fe ρ xs=some os)
 (hrun:∀(H:Nat->Option Obj) (X:List Nat) (ρF:Nat->Value),lM ρ ρF->gX (qR b H X) ρF δ s s') (w:World) {F:List Nat} (hk:KR w b s F) (ss:List Value)
 (hss:∀(i:Nat) cs,vws[i]?=some cs->∃ v,ss[i]?=some v/\Sl w v (ay (dV (ins.map iZ)) cs)) (hsF:∀ v∈ss,∀ k,dU v=some k->k∉F) (h1:∀ v∈ss,v.oneCell'=true) {vals:List Value} (hvs:ay (E0 (ρS (ins.map iZ) ss)) args=vals) :
 Calls Tryz.prog f vals.toArray w fun e w'=>∃ us F',e=.returned (LQ t us)/\ah w w' F/\Sub F' F w/\KR w' b s' F'/\b_ F' w' us (os.map KE.ca):=by
 obtain⟨P,ev,lp,mt,br,vw⟩:=cx;obtain rfl:P=Tryz.prog:=hP;obtain rfl:vw=Dj vws:=hvw;simp only [Bool.and_eq_true] at hkk;obtain⟨⟨k1,k2⟩,k3⟩:=hkk;rw [bn] at hlen;have hlen':ρ.length<=1000000:=hlen;have hF:lM ρ (ρS (ρ.map iZ) ss):=aqj ρ ss
 have hone:∀ i,(ρS (ρ.map iZ) ss i).oneCell'=true:=fun i=>by
  unfold ρS;split
  . rename_i hi
    have hi':i<ρ.length:=by simpa using hi
    rw [List.getD,List.getElem?_map,List.getElem?_eq_getElem hi'];rfl
  . cases hj:ss[i - 1000000]? with
    | none=>rw [List.getD,hj]; rfl
    | some u=>rw [List.getD,hj]; exact h1 u (List.mem_of_getElem? hj)
 have Np:Ext (ins.map iZ) (ρS (ρ.map iZ) ss):=by
  have:=V_ (ρ.map iZ) ss;rw [hτ,List.map_append] at this ⊢;exact this.of_append
 have hvk:∀ i cs,Dj vws i=some cs->∃ b a n c,ρS (ρ.map iZ) ss i=.slice (some ⟨b,a,none⟩) n c/\cs.length<=c/\iE 0 cs=true/\b∈ss.filterMap dU/\b<w.heap.size/\∀ k v,cs[k]?=some v->∀ E:Env,E.ρ=ρS (ρ.map iZ) ss->w.cell? ⟨b,a+k,none⟩=some (v.aA E):=fun i cs hi=>by
  unfold Dj at hi
  cases hb:Nat.ble 1000000 i with
  | false=>rw [hb] at hi; cases hi
  | true =>
   rw [hb] at hi;rw [bn] at hb;simp only [cond_true] at hi;rw [nD] at hi;obtain⟨z1,z2,z3⟩:=NY k3 hi;obtain⟨u,hu,hsl⟩:=hss _ _ hi;obtain⟨A,c,rfl,hcap,hcell⟩:=hsl;rw [aV] at hcap hcell;obtain⟨b,a,rfl,hcell2⟩:=hcell (by omega);refine⟨b,a,cs.length,c,?_,hcap,z1,?_,?_,?_⟩
   . unfold ρS
     rw [if_neg (by simp; omega),List.getD,hu,aV]; rfl
   . exact List.mem_filterMap.2 ⟨_,List.mem_of_getElem? hu,rfl⟩
   . have:=hcell2 0 (by omega)
     unfold World.cell? at this
     cases hb':w.heap[b]? with
     | none =>
      simp only [hb'] at this;rw [eq_comm,List.getElem?_eq_none_iff,aV] at this;omega
     | some o=>exact lt_of_heap hb'
   . intro k y hy E hE
     have hk':k<cs.length:=(List.getElem?_eq_some_iff.1 hy).1;rw [hcell2 k hk',cO,List.getElem?_map,hy];show some (y.aA (dV (ins.map iZ)))=some (y.aA E);have e4:ay (E0 (ρS (ρ.map iZ) ss)) cs=ay (dV (ins.map iZ)) cs:=jq Np cs (by rw [Wi]; exact z2);rw [cO,cO] at e4;have e5:=congrArg (fun l=>l[k]?) e4;simp only [List.getElem?_map,hy,Option.map_some] at e5;rw [<- e5]
     have z4:y.lt 0=true:=by
      unfold AV.lt;rw [aI,pow_eq];refine dP fun q hq=>?_;have:=kE z1 (fF (List.mem_of_getElem? hy) hq);omega
     rw [n_ (E:=E0 (ρS (ρ.map iZ) ss)) (E':=E) z4 hE]
 have hXF:∀ g∈(ss.filterMap dU).filter fun b=>decide (b<w.heap.size),g∉F:=fun g hg=>by
  obtain⟨u,hu,hub⟩:=List.mem_filterMap.1 (List.mem_filter.1 hg).1;exact hsF u hu g hub
 have hXs:∀ g∈(ss.filterMap dU).filter fun b=>decide (b<w.heap.size),g<w.heap.size:=fun g hg=>by
  have:=(List.mem_filter.1 hg).2
  simpa using this
 obtain ⟨_,hcall⟩:=z_ (M:=qR b (fun g => w.heap[g]?) ((ss.filterMap dU).filter fun b => decide (b < w.heap.size))) (ρv:=ρS (ρ.map iZ) ss) fG hmt hone (fun i cs hi => by
  obtain⟨b',a,n,c,y1,y2,y3,y4,y5,y6⟩:=hvk i cs hi;refine⟨b',a,n,c,y1,y2,y3,fun s w1 hw1=>?_⟩;have hm:b'∈(ss.filterMap dU).filter fun b=>decide (b<w.heap.size):=List.mem_filter.2 ⟨y4,by simpa using y5⟩;obtain⟨_,_,hS⟩:=hw1;refine⟨List.mem_append_right _ (List.mem_append_right _ hm),fun k u hu E hE=>?_⟩;have:=y6 k u hu E hE;unfold World.cell? at this ⊢;rw [show w1.heap[b']?=w.heap[b']? from(hS b' hm).2]
  exact this) fuel |>.2 f args ⟨.nil,0,aF ins⟩ v g' δ hc
 have hrep:Rep (qR b (fun g=>w.heap[g]?) ((ss.filterMap dU).filter fun b=>decide (b<w.heap.size))) (E0 (ρS (ρ.map iZ) ss)) s (⟨.nil,0,aF ins⟩:G).at 0 w:=⟨⟨⟨F,hk,hXF⟩,fun _ _=>rfl,fun g hg=>⟨hXs g hg,rfl⟩⟩,(fun b B hb=>by have:=dQ hb; cases this),(fun b b' B B' hb=>by have:=dQ hb; cases this),(fun b B hb=>by have:=dQ hb; cases this),(fun b B hb=>dQ hb)⟩
 have hcl:=hcall (E0 (ρS (ρ.map iZ) ss)) s s' w rfl hrep (fun u hu=>by
  unfold AV.lt;rw [aI,pow_eq];refine dP fun q hq=>?_;have:=kE k1 (fF hu hq)
  omega) (hrun _ _ _ hF)
 have H9:ay (E0 (ρS (ρ.map iZ) ss)) args=vals:=by
  rw [<- hvs,hτ,List.map_append];exact oq (by rw [<- List.map_append,<- hτ,List.length_map]; exact hlen') args (by rw [Wi]; exact k2)
 rw [H9] at hcl;refine hcl.mono ?_;rintro e w' ⟨E',rfl,hw⟩;obtain⟨⟨F',hk',hX'⟩,hG',hS'⟩:=hw.rep.sD;have eρ:E'.ρ=ρS (ρ.map iZ) ss:=hw.rho
 have hsub:Sub F' F w:=fun k hkF=>by
  have hgr:=hw.grow k (by show k∈VI b s' w'++_; rw [jd hk']; exact List.mem_append_left _ hkF);rcases hgr with hgr | hgr
  . have hgr:k∈VI b s w++VJ ((ss.filterMap dU).filter fun b=>decide (b<w.heap.size)):=hgr
    rw [jd hk] at hgr;rcases List.mem_append.1 hgr with h1 | h1
    . exact .inl h1
    . rcases List.mem_append.1 h1 with h1 | h1
      . have:=List.mem_range.1 h1; have:=hk'.high k hkF; omega
      . exact absurd hkF (hX' k h1)
  . exact .inr hgr
 have hcg:ah w w' F:=by
  have hfr:=hw.fr;refine VK (X:=(ss.filterMap dU).filter fun b=>decide (b<w.heap.size)) (hfr.more fun k _ hkd=>?_) (fun _ _=>rfl) hG' (fun g hg=>⟨hXs g hg,rfl⟩) hS';rcases hkd with hkd | ⟨b,B,hb,_⟩
  . have:k∈VI b s w++VJ ((ss.filterMap dU).filter fun b=>decide (b<w.heap.size)):=hkd
    rw [jd hk] at this;exact this
  . have:=dQ hb; cases this
 have fin:∀ {l:List AV},eargs g' l=some xs->b_ F' w' (ay E' l) (os.map KE.ca):=fun {l} hl=>by
  have:=uO hw.rep hl;rw [eρ,Z4 hF hx] at this
  exact this.sub fun k hkF=>by
   show k∈VI b s' w'++_;rw [jd hk'];exact List.mem_append_left _ hkF
 unfold xq at he;split at he
 . rename_i vs _
   cases hvs':eargs g' vs with
   | none=>rw [hvs'] at he; cases he
   | some l =>
    rw [hvs'] at he;injection he with he; injection he with he1 he2;subst he1 he2;exact⟨_,F',rfl,hcg,hsub,hk',fin hvs'⟩
 . cases hv':GI g' v with
   | none=>rw [hv'] at he; cases he
   | some x =>
    rw [hv'] at he;injection he with he; injection he with he1 he2;subst he1 he2;exact⟨[v.aA E'],F',rfl,hcg,hsub,hk',fin (l:=[v]) (by simp only [eargs,hv'])⟩
