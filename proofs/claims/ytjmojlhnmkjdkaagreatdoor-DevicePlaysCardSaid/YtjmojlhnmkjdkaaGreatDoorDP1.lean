/- Texts of this claim, side by side. -/
import Derived.Test.YtjmojlhnmkjdkaaGreatDoorRows
import Derived.WalkSpells
import Derived.WalkLawsBesides
import Derived.Laws.CopyOwn
import Derived.Laws.EntriesVeiled
import Derived.Deep.RegionHeld3
import Derived.Deep.OwnRows
import Derived.BigQuiet
set_option linter.unusedVariables false
set_option maxHeartbeats 8000000
namespace Go.Proofs.YtjmojlhnmkjdkaaGreatDoor
section
open Go.RowKit
theorem hide {p:Prop} (h:p):Hid p:=h
structure ah (w w':World) (D:List Nat):Prop where
 os:w'.os=w.os
 tape:w'.tape=w.tape
 output:w'.output=w.output
 size:w.heap.size<=w'.heap.size
 block:∀ k,k<w.heap.size->k∉D->w'.heap[k]?=w.heap[k]?
def aC(w:World)(g:Nat)(t:TypeId)(cs:List Value):Prop:=w.heap[g]?=some (.cells cs.toArray t (0,0))
theorem lt_of_heap{w:World}{g:Nat}{o:Obj}(h:w.heap[g]?=some o):g<w.heap.size:=(Array.getElem?_eq_some_iff.1 h).1
theorem tV(w:World)(p:Addr)(u:Value)(k:Nat)(h:k≠p.block):(w.setCell p u).heap[k]?=w.heap[k]?:=by
 simp [World.setCell,Array.getElem?_modify,Ne.symm h]
theorem size_setCell(w:World)(p:Addr)(u:Value):(w.setCell p u).heap.size=w.heap.size:=by simp [World.setCell]
theorem rC(w:World)(o:Obj)(k:Nat)(h:k<w.heap.size):(w.alloc o).heap[k]?=w.heap[k]?:=Below.heap_alloc w o k h
theorem size_alloc(w:World)(o:Obj):(w.alloc o).heap.size=w.heap.size+1:=by simp
section
variable {w w' w'':World} {D D':List Nat}
theorem ah.refl(w:World)(D:List Nat):ah w w D:=⟨rfl,rfl,rfl,Nat.le_refl _,fun _ _ _=>rfl⟩
theorem ah.more (h:ah w w' D) (hD:∀ k,k∈D->k∈D'\/w.heap.size<=k):ah w w' D' :=
 ⟨h.os,h.tape,h.output,h.size,fun k hk hn=>h.block k hk (fun hm=>by rcases hD k hm with h1 | h1; exact hn h1; omega)⟩
theorem ah.trans (h:ah w w' D) (h':ah w' w'' D') (hD:∀ k,k∈D'->k∈D\/w.heap.size<=k):ah w w'' D :=
 ⟨h'.os.trans h.os,h'.tape.trans h.tape,h'.output.trans h.output,Nat.le_trans h.size h'.size,fun k hk hn =>
   (h'.block k (Nat.lt_of_lt_of_le hk h.size) (fun hm=>by rcases hD k hm with h1 | h1; exact hn h1; omega)).trans (h.block k hk hn)⟩
theorem ah.alloc (h:ah w w' D) (o:Obj):ah w (w'.alloc o) D :=
 ⟨h.os,h.tape,h.output,by rw [size_alloc]; have:=h.size; omega,fun k hk hn=>(rC w' o k (Nat.lt_of_lt_of_le hk h.size)).trans (h.block k hk hn)⟩
theorem ah.drew (h:ah w w' D):ah w w'.drew D:=⟨h.os,h.tape,h.output,h.size,h.block⟩
theorem ah.adY (h:ah w.drew w' D):ah w w' D:=⟨h.os,h.tape,h.output,h.size,h.block⟩
theorem ah.drewN (h:ah w w' D) (n:Nat):ah w (w'.drewN n) D:=⟨h.os,h.tape,h.output,h.size,h.block⟩
theorem ah.setCell (h:ah w w' D) (p:Addr) (u:Value) (hp:p.block∈D\/w.heap.size<=p.block):ah w (w'.setCell p u) D :=
 ⟨h.os,h.tape,h.output,by rw [size_setCell]; exact h.size,fun k hk hn=>(tV w' p u k (fun e=>by subst e; rcases hp with h1 | h1; exact hn h1; omega)).trans (h.block k hk hn)⟩
theorem ah.of_below(h:Below w.heap.size w w'):ah w w' D:=⟨h.os,h.tape,h.output,h.size,fun k hk _=>h.block k hk⟩
theorem ah.below {B:Nat} {w0:World} (h:ah w w' D) (hb:Below B w0 w) (hB:B<=w0.heap.size) (hD:∀ k,k∈D->B<=k):Below B w0 w' :=
 ⟨h.os.trans hb.os,h.tape.trans hb.tape,h.output.trans hb.output,Nat.le_trans hb.size h.size,
   fun i hi=>(h.block i (Nat.lt_of_lt_of_le hi (Nat.le_trans hB hb.size)) (fun hm=>by have:=hD i hm; omega)).trans (hb.block i hi)⟩
theorem ah.Uf (h:ah w w' []):Below w.heap.size w w':=h.below (Below.refl _ _) (Nat.le_refl _) (by simp)
theorem ah.fZ{row:Option Nat}(h:w.grownBy w' row)(hr:∀ k,row=some k->k∈D\/w.heap.size<=k):ah w w' D :=
 ⟨h.os,h.tape,h.output,h.size,fun k hk hn=>h.block k hk (fun e=>by rcases hr k e.symm with h1 | h1; exact hn h1; omega)⟩
theorem ah.cell(h:ah w w' D){a:Addr}{v:Value}(hc:w.cell? a=some v)(hn:a.block∉D):w'.cell? a=some v :=
 (World.cell?_of_block (h.block a.block (World.block_lt_of_cell? w a hc) hn)).trans hc
theorem ah.heap(h:ah w w' D){k:Nat}{o:Obj}(hc:w.heap[k]?=some o)(hn:k∉D):w'.heap[k]?=some o :=
 (h.block k (lt_of_heap hc) hn).trans hc
end
section
variable {w w':World} {g:Nat} {t:TypeId} {cs:List Value} {D:List Nat}
theorem aC.lt(h:aC w g t cs):g<w.heap.size:=lt_of_heap h
theorem aC.cell(h:aC w g t cs)(i:Nat):w.cell? ⟨g,i,none⟩=cs[i]?:=by
 have:=cell_of_row w g i cs.toArray t (0,0) h
 simpa using this
theorem aC.cell'(h:aC w g t cs){i:Nat}{v:Value}(hv:cs[i]?=some v):w.cell? ⟨g,i,none⟩=some v:=(h.cell i).trans hv
theorem aC.frozen(h:aC w g t cs)(i:Nat):w.frozen? ⟨g,i,none⟩=false:=by
 unfold aC at h;simp [World.frozen?,h]
theorem aC.new (w:World) (t:TypeId) (cs:List Value):aC (w.alloc (.cells cs.toArray t)) w.heap.size t cs:=heap_alloc_new w _
theorem aC.drew (h:aC w g t cs):aC w.drew g t cs:=h
theorem aC.drewN (h:aC w g t cs) (n:Nat):aC (w.drewN n) g t cs:=h
theorem aC.alloc (h:aC w g t cs) (o:Obj):aC (w.alloc o) g t cs:=(rC w o g h.lt).trans h
theorem aC.aK (h:aC w g t cs) (i:Nat) (u:Value):aC (w.setCell ⟨g,i,none⟩ u) g t (cs.set i u):=by
 unfold aC at h ⊢;simp [World.setCell,Array.getElem?_modify,h]
theorem aC.far (h:aC w g t cs) {p:Addr} (hp:g≠p.block) (u:Value):aC (w.setCell p u) g t cs:=(tV w p u g hp).trans h
theorem aC.aj (h:aC w g t cs) (hb:ah w w' D) (hg:g∉D):aC w' g t cs:=hb.heap h hg
theorem aC.ne_ {g':Nat} {t':TypeId} {cs':List Value} (h:aC w g t cs) (h':aC w g' t' cs') (hne:t≠t'):g≠g':=by
 rintro rfl;unfold aC at h h';rw [h] at h';injection h' with h';injection h' with _ ht;exact hne ht
end
theorem add_plain(g off n:Nat):(⟨g,off,none⟩:Addr).add n=⟨g,off+n,none⟩:=by unfold Addr.add; split<;>simp_all
theorem plain_of_cell{w:World}{a:Addr}{v:Value}(h:w.cell? a=some v):a=⟨a.block,a.off,none⟩:=by
 rcases a with⟨b,o,s⟩;rcases s with _ | s
 . rfl
 . unfold World.cell? at h
   split at h
   . simp at h
   . cases h
def Sl (w:World) (v:Value) (xs:List Value):Prop :=
 ∃ A c,v=.slice A xs.length c/\xs.length<=c/\(0<xs.length->∃ b off,A=some ⟨b,off,none⟩/\∀ k,k<xs.length->w.cell? ⟨b,off+k,none⟩=xs[k]?)
section
variable {w w':World} {v:Value} {xs:List Value} {D:List Nat}
theorem Sl.at_{A:Option Addr}{n c k:Nat}{u:Value}(h:Sl w (.slice A n c) xs)(hk:xs[k]?=some u):∃ b off,A=some ⟨b,off,none⟩/\w.cell? ⟨b,off+k,none⟩=some u/\b<w.heap.size:=by
 obtain⟨A',c',hv,hc,hx⟩:=h;have hlt:k<xs.length:=(List.getElem?_eq_some_iff.1 hk).1;obtain⟨b,off,rfl,h2⟩:=hx (by omega);injection hv with hA _ _;have hs:w.cell? ⟨b,off+k,none⟩=some u:=(h2 k hlt).trans hk;exact⟨b,off,hA,hs,World.block_lt_of_cell? w _ hs⟩
theorem Sl.aj(h:Sl w v xs)(hb:ah w w' D)(hD:∀ A n c,v=.slice (some A) n c->A.block∉D):Sl w' v xs:=by
 obtain⟨A,c,hv,hc,hx⟩:=h;refine⟨A,c,hv,hc,fun h0=>?_⟩;obtain⟨b,off,rfl,h2⟩:=hx h0;refine⟨b,off,rfl,fun k hk=>?_⟩;have hs:w.cell? ⟨b,off+k,none⟩=some xs[k]:=(h2 k hk).trans (List.getElem?_eq_getElem hk);exact(hb.cell hs (by have:=hD _ _ _ hv; exact this)).trans (List.getElem?_eq_getElem hk).symm
theorem Sl.bJ(h:Sl w v xs)(hb:ah w w' D)(hD:0<xs.length->∀ A n c,v=.slice (some A) n c->A.block∉D):Sl w' v xs:=by
 by_cases h0:0<xs.length
 . exact h.aj hb (hD h0)
 . obtain⟨A,c,hv,hc,_⟩:=h
   exact⟨A,c,hv,hc,fun h1=>absurd h1 h0⟩
theorem Sl.keep (h:Sl w v xs) (hb:ah w w' []):Sl w' v xs:=h.aj hb (by simp)
theorem Sl.blk {g:Nat} {t:TypeId} {ys:List Value} {n c:Nat} (h:aC w g t ys) (hn:n<=ys.length) (hc:n<=c):Sl w (.slice (some ⟨g,0,none⟩) n c) (ys.take n):=by
 have hl:(ys.take n).length=n:=by simp; omega
 refine⟨some ⟨g,0,none⟩,c,by rw [hl],by omega,fun _=>⟨g,0,rfl,fun k hk=>?_⟩⟩;rw [Nat.zero_add,h.cell,List.getElem?_take];rw [if_pos (by omega)]
theorem Sl.blk'{g:Nat}{t:TypeId}{ys:List Value}{n c:Nat}(h:aC w g t ys)(hn:n=ys.length)(hc:n<=c):Sl w (.slice (some ⟨g,0,none⟩) n c) ys:=by
 subst hn
 simpa using Sl.blk h (Nat.le_refl _) hc
theorem Sl.own {base e:Nat} {n:Nat} (h:w.ownsRow base e 1 v n xs):Sl w v xs:=by
 have hl:=h.1;rcases h.2 with⟨rfl,h0⟩ | ⟨g,cap,cur,rfl,h1,h2,h3,h4,h5,h6⟩
 . subst h0
   have:xs=[]:=List.eq_nil_of_length_eq_zero (by simpa using hl);subst this;exact⟨none,0,rfl,by simp,by simp⟩
 . have hn:n=xs.length:=by omega
   subst hn;refine⟨_,cap,rfl,h3,fun _=>⟨g,0,rfl,fun k hk=>?_⟩⟩;have:=(h.cells (g:=g) rfl k _ (List.getElem?_eq_getElem hk)).trans (List.getElem?_eq_getElem hk).symm;rwa [add_plain] at this
end
theorem Sl.aor {k:IntKind} {w:World} {a:Option Addr} {len cap:Nat} {zs:List Int}
 (h:(a=none/\len=0/\cap=0/\zs=[]) \/
   ∃ x,a=some x/\len<=cap/\cap<=maxLen/\zs.length=cap/\(∀ i,i<zs.length->w.cell? (x.add i)=some (.int k (zs.getD i 0)))/\∀ n∈zs,(Lit.int k n).wf=true) :
 Sl w (.slice a len cap) ((zs.take len).map (.int k))/\(zs.take len).length=len/\len<=maxLen/\∀ n∈zs.take len,(Lit.int k n).wf=true:=by
 rcases h with⟨rfl,rfl,rfl,rfl⟩ | ⟨x,rfl,hl,hm,hz,hc,hw⟩
 . exact⟨⟨none,0,rfl,by simp,by simp⟩,rfl,by simp,by simp⟩
 . have hlen:(zs.take len).length=len:=by simp; omega
   refine⟨⟨some x,cap,by rw [List.length_map,hlen],by simp; omega,fun h0=>?_⟩,hlen,by omega,fun n hn=>hw n (List.mem_of_mem_take hn)⟩;have h0':0<len:=by rwa [List.length_map,hlen] at h0
   have hx:x=⟨x.block,x.off,none⟩:=by
    have:=hc 0 (by omega);rw [show x.add 0=x by unfold Addr.add; simp] at this;exact plain_of_cell this
   refine⟨x.block,x.off,by rw [<- hx],fun k hk=>?_⟩;have hk':k<len:=by rwa [List.length_map,hlen] at hk
   rw [<- add_plain,<- hx,hc k (by omega)];simp [hk',List.getD_eq_getElem?_getD,show k<zs.length by omega]
def bG (zs:List Int):List Value:=zs.map (Value.int .i32)
@[simp] theorem ato (zs:List Int):(bG zs).length=zs.length:=by simp [bG]
theorem Pj(zs:List Int)(i:Nat)(h:i<zs.length):(bG zs)[i]?=some (.int .i32 (zs.getD i 0)):=by
 simp [bG,h,List.getD_eq_getElem?_getD]
theorem Ug(zs:List Int)(i:Nat)(x:Int):bG (zs.set i x)=(bG zs).set i (.int .i32 x):=by simp [bG,List.map_set]
theorem zO{a b:Bool}(h:a=b):Ending.returned (.bool a)=.returned (.bool b):=by rw [h]
theorem rD{k:IntKind}{a b:Int}(h:a=b):Ending.returned (.int k a)=.returned (.int k b):=by rw [h]
theorem ahp{k:IntKind}(zs:List Int):∀ v∈zs.map (Value.int k),v.oneCell'=true:=by
 intro v hv;obtain⟨z,_,rfl⟩:=List.mem_map.1 hv;rfl
theorem ahq(zs:List Int):∀ v∈bG zs,v.oneCell'=true:=ahp zs
theorem MH{P:Program}{w:World}{ops:Array Oper}{rest:List Oper}{o:Oper}{a:Act}{Q:Exit->Act->World->Prop}(hgd:o.guard=none)(d s:Operand)(dT sT:TypeId)
 (ho:o.op=.call { callee:=.builtin .copy,args:=#[d,s],argTypes:=#[dT,sT] }) (elem:TypeId) (hu:P.underlying dT=some (.slice elem)) (hsz:(P.info? elem).map (·.size)=some 1)
 (g n c:Nat) (v:Value) (xs cur:List Value) (t:TypeId) (hd:a.eval d=.slice (some ⟨g,0,none⟩) n c) (hs:a.eval s=v) (hg:aC w g t cur) (hsl:Sl w v xs) (hn:cur.length=n) (hx:xs.length=n)
 (h1:∀ v∈xs,v.oneCell'=true) (h:∀ w',Hid (aC w' g t xs)->Hid (ah w w' [g])->wpList P ops Q rest (a.put o.dst (goInt n)) w') :
 wpList P ops Q (o::rest) a w:=by
 obtain⟨A,c',rfl,hc,hk⟩:=hsl;by_cases h0:xs.length=0
 . refine wpList_copy_nothing hgd d s dT sT ho elem hu hsz (some ⟨g,0,none⟩) A n c xs.length c' hd hs (by simp [h0]) ?_
   have hx0:xs=[]:=List.eq_nil_of_length_eq_zero h0;have hn0:n=0:=by omega
   have hc0:cur=[]:=List.eq_nil_of_length_eq_zero (by omega);subst hn0;exact h w (show aC w g t xs by rw [hx0,<- hc0]; exact hg) (ah.refl _ _)
 . obtain⟨sb,so,rfl,hk2⟩:=hk (by omega)
   refine wpList_copy_own hgd d s dT sT ho elem hu hsz g 0 n c ⟨sb,so,none⟩ xs.length c' hd hs cur.toArray t hg xs (by simp [hx]) ?_ (by simp; omega) h1 ?_
   . intro j u hu
     have hj:j<xs.length:=(List.getElem?_eq_some_iff.1 hu).1;rw [add_plain];exact(hk2 j hj).trans hu
   . rw [hx]
     refine h _ ?_ ?_
     . have:=setRow_heap w g cur.toArray (xs++cur.drop n).toArray t _ hg
       have hdr:cur.drop n=[]:=List.drop_eq_nil_of_le (by omega);show aC _ _ _ _;unfold aC
       simpa [hdr] using this
     . exact⟨rfl,rfl,rfl,by simp [World.setRow],fun k _ hk=>setRow_other w g k _ (fun e=>hk (by simp [e]))⟩
def zeros (z:Value) (n:Nat):List Value:=List.replicate n z
theorem Uh(z:Value)(n:Nat):(zeros z n).length=n:=by simp [zeros]
theorem lW(z:Value)(n:Nat):madeCells #[z] n=(zeros z n).toArray:=by
 unfold zeros;apply Array.ext
 . simp [madeCells]
 . intro i h1 h2
   simp [madeCells,Nat.mod_one]
theorem KN{P:Program}{w:World}{ops:Array Oper}{rest:List Oper}{o:Oper}{a:Act}{Q:Exit->Act->World->Prop}(hgd:o.guard=none)(s x:Operand)(t:TypeId)
 (ho:o.op=.call { callee:=.builtin .append,args:=#[s,x],argTypes:=#[t,t] })
 (base:Nat) (e:TypeId) (i:TypeInfo) (z:Value) (bytes:Nat) (ht:P.underlying t=some (.slice e)) (hi:P.info? e=some i) (hz:i.zero=some z)
 (hsize:i.size=1) (hby:i.bytes=bytes) (hzs:z.cells.size=1)
 (v:Value) (n:Nat) (xs:List Value) (hs:a.eval s=v) (hown:w.ownsRow base e 1 v n xs)
 (sv:Value) (news:List Value) (hx:a.eval x=sv) (hr:Sl w sv news) (h1:∀ u∈news,u.oneCell'=true)
 (h63:n+news.length<=maxLen) (hbytes:(n+news.length)*bytes<=140737488355328) (hbase:base<=w.heap.size)
 (h:∀ v' w',Hid (w'.ownsRow base e 1 v' (n+news.length) (xs++news))->Hid (w.grownBy w' v.ownBlock)->Hid (v'.ownBlock=v.ownBlock\/v'.ownBlock=some w.heap.size)->wpList P ops Q rest (a.put o.dst v') w') :
 wpList P ops Q (o::rest) a w:=by
 refine wpList_plain hgd fun K hK=>?_
 have hrun:∃ v' w',(Builtin.append_ #[t,t] o.type #[v,sv]).run P w=.ok v' w'/\w'.ownsRow base e 1 v' (n+news.length) (xs++news)/\w.grownBy w' v.ownBlock /\
  (v'.ownBlock=v.ownBlock\/v'.ownBlock=some w.heap.size):=by
  obtain⟨A,c,rfl,hc,hk⟩:=hr;rcases A with _ | ad
  . have hn : news=[] := by
     rcases news with _ | ⟨u,l⟩
     . rfl
     . obtain⟨_,_,h,_⟩:=hk (by simp)
       cases h
    subst hn;refine⟨v,w,?_,by simpa using hown,⟨rfl,rfl,rfl,Nat.le_refl _,fun _ _ _=>rfl⟩,.inl rfl⟩;rcases hown.2 with⟨rfl,rfl⟩ | ⟨g,cap,cur,rfl,_,_,hnc,_⟩
    . simp [Builtin.append_,run_underlying ht,sizeOf,typeInfo,hi,Builtin.lenOf,Builtin.firstCells]
    . simp [Builtin.append_,run_underlying ht,sizeOf,typeInfo,hi,Builtin.lenOf,Builtin.firstCells,hnc,storeCells]
  . obtain ⟨v', w', hrun, h2, h3, _, h5⟩ := run_append_own_at (P := P) w base t o.type e i z 1 bytes ht hi hz hsize hby hzs (by omega) v n xs hown ad news.length c news (by simp)
     (fun j u hu=>by
       have hj:j<news.length:=(List.getElem?_eq_some_iff.1 hu).1;obtain⟨sb,so,e,hcell⟩:=hk (by omega);injection e with e;subst e;rw [add_plain]
       exact(hcell j hj).trans hu) h1 h63 hbytes hbase
    exact⟨v',w',hrun,h2,h3,h5⟩
 obtain⟨v',w',hrun,h2,h3,h4⟩:=hrun;unfold Oper.wp execOp;simp only [ho,resolve,invoke,builtin,Sem.run_bind,Sem.run_pure,Result.andThen_ok,List.map_toArray,List.map_cons,List.map_nil,hs,hx,hrun];exact hK _ _ (h v' w' h2 h3 h4)
end

section
open Go.RowKit Go.Deep
def jQ (op:Int):List UInt8 :=
 if op<1\/43<op then [] else if op<=23 then [100,97,98,45] else if op<=30 then [100,97,45,45] else if op=31 then [100,97,45,115]
 else if op=33\/op=40 then [100,45,45,117] else if op<39 then [100,97,45,117] else if op=39 then [45,45,45,117] else if op=41 then [45,97,45,45] else [45,45,45,45]
theorem fU(op:Int):(op<1\/43<op)/\jQ op=[]\/(1<=op/\op<=23)/\jQ op=[100,97,98,45]\/(24<=op/\op<=30)/\jQ op=[100,97,45,45]\/op=31/\jQ op=[100,97,45,115] \/
 op=33/\jQ op=[100,45,45,117]\/op=40/\jQ op=[100,45,45,117]\/(op=32\/34<=op/\op<=38)/\jQ op=[100,97,45,117]\/op=39/\jQ op=[45,45,45,117]\/op=41/\jQ op=[45,97,45,45]\/(op=42\/op=43)/\jQ op=[45,45,45,45]:=by
 unfold jQ;by_cases h0:op<1\/43<op
 . exact .inl ⟨h0,if_pos h0⟩
 rw [if_neg h0];by_cases h1:op<=23
 . exact .inr (.inl ⟨by omega,if_pos h1⟩)
 rw [if_neg h1];by_cases h2:op<=30
 . exact .inr (.inr (.inl ⟨by omega,if_pos h2⟩))
 rw [if_neg h2];by_cases h3:op=31
 . exact .inr (.inr (.inr (.inl ⟨h3,if_pos h3⟩)))
 rw [if_neg h3];by_cases h4:op=33
 . exact .inr (.inr (.inr (.inr (.inl ⟨h4,if_pos (.inl h4)⟩))))
 by_cases h5:op=40
 . exact .inr (.inr (.inr (.inr (.inr (.inl ⟨h5,if_pos (.inr h5)⟩)))))
 rw [if_neg (by omega)];by_cases h6:op<39
 . exact .inr (.inr (.inr (.inr (.inr (.inr (.inl ⟨by omega,if_pos h6⟩))))))
 rw [if_neg h6];by_cases h7:op=39
 . exact .inr (.inr (.inr (.inr (.inr (.inr (.inr (.inl ⟨h7,if_pos h7⟩)))))))
 rw [if_neg h7];by_cases h8:op=41
 . exact .inr (.inr (.inr (.inr (.inr (.inr (.inr (.inr (.inl ⟨h8,if_pos h8⟩))))))))
 rw [if_neg h8];exact .inr (.inr (.inr (.inr (.inr (.inr (.inr (.inr (.inr ⟨by omega,rfl⟩))))))))
theorem qG (op:Int) (w:World) :
 Calls Tryz.prog 110 #[.int .i64 op] w fun e w'=>e=.returned (.string ⟨(jQ op).toArray⟩)/\w=w':=by
 rcases fU op with⟨h,e⟩ | ⟨h,e⟩ | ⟨h,e⟩ | ⟨h,e⟩ | ⟨h,e⟩ | ⟨h,e⟩ | ⟨h,e⟩ | ⟨h,e⟩ | ⟨h,e⟩ | ⟨h,e⟩
 . rw [e]; clear e
   rcases h with h | h
   . have d1:decide (1<=op)=false:=by simp; omega
     go_enter Tryz.func110,Tryz.ntmps110
     go_wp2;go_ret;exact⟨rfl,rfl⟩
   . have d1:decide (op<=43)=false:=by simp; omega
     have h1:1<=op:=by omega
     go_enter Tryz.func110,Tryz.ntmps110
     go_wp2;go_ret;exact⟨rfl,rfl⟩
 . rw [e]; clear e
   have d1:decide (1<=op)=true:=by simp; omega
   have d2:decide (op<=43)=true:=by simp; omega
   obtain⟨h1,h2⟩:=h;go_enter Tryz.func110,Tryz.ntmps110
   go_wp2;go_ret;exact⟨rfl,rfl⟩
 . rw [e]; clear e
   have d1:decide (1<=op)=true:=by simp; omega
   have d2:decide (op<=43)=true:=by simp; omega
   obtain⟨h1,h2⟩:=h;go_enter Tryz.func110,Tryz.ntmps110
   go_wp2;go_ret;exact⟨rfl,rfl⟩
 . rw [e]; clear e; subst h
   go_enter Tryz.func110,Tryz.ntmps110
   go_wp2;go_ret;exact⟨rfl,rfl⟩
 . rw [e]; clear e; subst h
   go_enter Tryz.func110,Tryz.ntmps110
   go_wp2;go_ret;exact⟨rfl,rfl⟩
 . rw [e]; clear e; subst h
   go_enter Tryz.func110,Tryz.ntmps110
   go_wp2;go_ret;exact⟨rfl,rfl⟩
 . rw [e]; clear e
   rcases h with h | ⟨h1,h2⟩
   . subst h
     go_enter Tryz.func110,Tryz.ntmps110
     go_wp2;go_ret;exact⟨rfl,rfl⟩
   . have h5:(op==31)=false:=by rw [beq_eq_false_iff_ne]; omega
     have h3:(op==33)=false:=by rw [beq_eq_false_iff_ne]; omega
     have h4:(op==40)=false:=by rw [beq_eq_false_iff_ne]; omega
     have d1:decide (1<=op)=true:=by simp; omega
     have d2:decide (op<=43)=true:=by simp; omega
     go_enter Tryz.func110,Tryz.ntmps110
     go_wp2;go_ret;exact⟨rfl,rfl⟩
 . rw [e]; clear e; subst h
   go_enter Tryz.func110,Tryz.ntmps110
   go_wp2;go_ret;exact⟨rfl,rfl⟩
 . rw [e]; clear e; subst h
   go_enter Tryz.func110,Tryz.ntmps110
   go_wp2;go_ret;exact⟨rfl,rfl⟩
 . rw [e]; clear e
   rcases h with h | h
   all_goals
    subst h;go_enter Tryz.func110,Tryz.ntmps110
    go_wp2;go_ret;exact⟨rfl,rfl⟩
def lo(l:UInt8):Int:=if l=115 then -32768 else 0
def hi(l:UInt8):Int:=if l=45 then 0 else if l=115 then 32767 else if l=117 then 65535 else 31
def er(l:UInt8):Int:=if l=45 then 3 else 6
def fe(l:UInt8)(n:Int):Int:=if n<lo l\/hi l<n then er l else 0
theorem yY(l:UInt8):er l≠0:=by unfold er; split<;>omega
def iG (a b c d:UInt8) (x y z u:Int):Int:=if fe a x≠0 then fe a x else if fe b y≠0 then fe b y else if fe c z≠0 then fe c z else fe d u
def chk (op x y z u:Int):Int:=match jQ op with
 | [a,b,c,d]=>iG a b c d x y z u
 | _=>2
theorem iV (l:UInt8) (w:World) :
 Calls Tryz.prog 237 #[.int .u8 (l.toNat:Int)] w fun e w'=>e=.returned (.tuple #[.int .i64 (lo l),.int .i64 (hi l),.int .i64 (er l)])/\w=w':=by
 have key:∀ m:UInt8,l=m↔((l.toNat:Int)=(m.toNat:Int)):=fun m=>by rw [<- UInt8.toNat_inj]; omega
 by_cases h1:l=45
 . subst h1
   go_enter Tryz.func237,Tryz.ntmps237
   go_wp2;refine bodyPost_ret (results_tmp3 rfl _ _ _) rfl ?_;exact⟨rfl,rfl⟩
 . by_cases h2:l=115
   . subst h2
     go_enter Tryz.func237,Tryz.ntmps237
     go_wp2;refine bodyPost_ret (results_tmp3 rfl _ _ _) rfl ?_;exact⟨rfl,rfl⟩
   . by_cases h3:l=117
     . subst h3
       go_enter Tryz.func237,Tryz.ntmps237
       go_wp2;refine bodyPost_ret (results_tmp3 rfl _ _ _) rfl ?_;exact⟨rfl,rfl⟩
     . have e1:lo l=0:=by unfold lo; rw [if_neg h2]
       have e2:hi l=31:=by unfold hi; rw [if_neg h1,if_neg h2,if_neg h3]
       have e3:er l=6:=by unfold er; rw [if_neg h1]
       rw [e1,e2,e3];have k1:((l.toNat:Int)==45)=false:=by rw [beq_eq_false_iff_ne]; intro h; exact h1 ((key 45).2 h)
       have k2:((l.toNat:Int)==115)=false:=by rw [beq_eq_false_iff_ne]; intro h; exact h2 ((key 115).2 h)
       have k3:((l.toNat:Int)==117)=false:=by rw [beq_eq_false_iff_ne]; intro h; exact h3 ((key 117).2 h)
       clear h1 h2 h3 key e1 e2 e3;generalize (l.toNat:Int)=n at *;go_enter Tryz.func237,Tryz.ntmps237
       go_wp2;refine bodyPost_ret (results_tmp3 rfl _ _ _) rfl ?_;exact⟨rfl,rfl⟩
def qH:List Value:=[.func (.func 175) #[] #[],.int .u64 21,.int .u64 5,.func (.func 176) #[] #[],.int .u64 16,.int .u64 5,
 .func (.func 177) #[] #[],.int .u64 11,.int .u64 5,.func (.func 178) #[] #[],.int .u64 0,.int .u64 16]
theorem EI (a b c d:UInt8) (w:World) :
 Calls Tryz.prog 111 #[.string ⟨#[a,b,c,d]⟩] w fun e w'=>e=.returned (.slice (some ⟨w.heap.size,0,none⟩) 4 4)/\w.alloc (.cells qH.toArray 189)=w':=by
 go_enter Tryz.func111,Tryz.ntmps111
 go_wp2;go_ret;exact⟨rfl,rfl⟩
theorem Ld(ib:Nat)(w:World):Calls Tryz.prog 175 #[.pointer (some ⟨ib,0,none⟩)] w fun e w'=>e=.returned (.pointer (some ⟨ib,1,none⟩))/\w=w':=by
 go_enter Tryz.func175,Tryz.ntmps175
 go_wp2;go_ret;exact⟨rfl,rfl⟩
theorem Le(ib:Nat)(w:World):Calls Tryz.prog 176 #[.pointer (some ⟨ib,0,none⟩)] w fun e w'=>e=.returned (.pointer (some ⟨ib,2,none⟩))/\w=w':=by
 go_enter Tryz.func176,Tryz.ntmps176
 go_wp2;go_ret;exact⟨rfl,rfl⟩
theorem Lh(ib:Nat)(w:World):Calls Tryz.prog 177 #[.pointer (some ⟨ib,0,none⟩)] w fun e w'=>e=.returned (.pointer (some ⟨ib,3,none⟩))/\w=w':=by
 go_enter Tryz.func177,Tryz.ntmps177
 go_wp2;go_ret;exact⟨rfl,rfl⟩
theorem Lj(ib:Nat)(w:World):Calls Tryz.prog 178 #[.pointer (some ⟨ib,0,none⟩)] w fun e w'=>e=.returned (.pointer (some ⟨ib,4,none⟩))/\w=w':=by
 go_enter Tryz.func178,Tryz.ntmps178
 go_wp2;go_ret;exact⟨rfl,rfl⟩
abbrev kK (op x y z u:Int):Value:=.agg #[.int .i64 op,.int .i64 x,.int .i64 y,.int .i64 z,.int .i64 u]
abbrev kV (op x y z u:Int):List Value:=[.int .i64 op,.int .i64 x,.int .i64 y,.int .i64 z,.int .i64 u]
theorem abg(op x y z u:Int)(w:World)(h:jQ op=[]) :
 Calls Tryz.prog 170 #[kK op x y z u] w fun e w'=>e=.returned (.int .i64 2)/\ah w w' []:=by
 go_enter Tryz.func170,Tryz.ntmps170
 go_wp2_with (go_at_call 110; refine(qG op _).mono ?_; rintro e w1 ⟨rfl,rfl⟩; rw [h]);go_ret;exact⟨rfl,(ah.refl _ _).alloc _⟩
def DJ (w:World) (a b c d:UInt8) (x y z u:Int) (ib q:Nat) (op:Int) (v:Value) (wr:World):Prop :=
 ∃ k:Nat,k<=4/\v=.int .i64 (k:Int)/\(0<k->fe a x=0)/\(1<k->fe b y=0)/\(2<k->fe c z=0)/\(3<k->fe d u=0) /\
  aC wr ib 126 (kV op x y z u)/\aC wr q 189 qH/\ah w wr []
theorem abh(op x y z u:Int)(a b c d:UInt8)(w:World)(h:jQ op=[a,b,c,d]) :
 Calls Tryz.prog 170 #[kK op x y z u] w fun e w'=>e=.returned (.int .i64 (iG a b c d x y z u))/\ah w w' []:=by
 have hib:aC (w.alloc (.cells (kV op x y z u).toArray 126)) w.heap.size 126 (kV op x y z u):=aC.new _ _ _;have hc0:ah w (w.alloc (.cells (kV op x y z u).toArray 126)) []:=(ah.refl _ _).alloc _;generalize hibn:w.heap.size=ib at hib;have HI:=hide hibn;clear hibn;go_enter Tryz.func170,Tryz.ntmps170
 go_wp2_with fail
 rw [HI.out];generalize w.alloc (.cells #[.int .i64 op,.int .i64 x,.int .i64 y,.int .i64 z,.int .i64 u] 126)=w0 at *;have HB:=hide hib;have HC:=hide hc0;clear hib hc0;refine(qG op _).mono ?_;rintro e w1 ⟨rfl,rfl⟩;rw [h];go_wp2_with fail
 refine(EI a b c d _).mono ?_;rintro e w1 ⟨rfl,rfl⟩
 have hstart:DJ w a b c d x y z u ib w0.heap.size op (.int .i64 (0:Nat)) (w0.alloc (.cells qH.toArray 189)) :=
  ⟨0,by omega,rfl,by omega,by omega,by omega,by omega,HB.out.alloc _,aC.new _ _ _,HC.out.alloc _⟩
 generalize w0.heap.size=q at *;generalize w0.alloc (.cells qH.toArray 189)=w1 at *;clear HB HC h;go_wp2_with fail
 go_loopw [18] (fun v wr=>DJ w a b c d x y z u ib q op v wr) (fun i _=>4 - (intOf i).toNat)
 case atStart=>exact hstart
 case round =>
  obtain⟨k,hk,rfl,h0,h1,h2,h3,hbi,hbq,hc⟩:=hrel;have kk:k=0\/k=1\/k=2\/k=3\/k=4:=by omega
  have cop:=hbi.cell' (i:=0) rfl;have cx:=hbi.cell' (i:=1) rfl;have cy:=hbi.cell' (i:=2) rfl;have cz:=hbi.cell' (i:=3) rfl;have cu:=hbi.cell' (i:=4) rfl;have aoK:=hbi.lt;have aoL:=hbq.lt;have abj:=hide hbi;have abk:=hide hbq;rcases kk with rfl | rfl | rfl | rfl | rfl
  . have q0:=hbq.cell' (i:=0) rfl
    have q1:=hbq.cell' (i:=1) rfl;have q2:=hbq.cell' (i:=2) rfl;clear hbi hbq;by_cases g:x<lo a
    . have HF : Hid (iG a b c d x y z u=er a) := by
       have hf:fe a x=er a:=by unfold fe; rw [if_pos (.inl g)]
       have hn:=yY a;show iG a b c d x y z u=er a;unfold iG;simp [hf,hn]
      clear h0 h1 h2 h3;go_wp2_with (first | (go_at_call 237; refine(iV a _).mono ?_; rintro e w2 ⟨rfl,rfl⟩) | (go_at_call 175; refine(Ld ib _).mono ?_; rintro e w2 ⟨rfl,rfl⟩));go_ret;exact⟨rD HF.out.symm,hc.alloc _⟩
    . by_cases g2:hi a<x
      . have HF : Hid (iG a b c d x y z u=er a) := by
         have hf:fe a x=er a:=by unfold fe; rw [if_pos (.inr g2)]
         have hn:=yY a;show iG a b c d x y z u=er a;unfold iG;simp [hf,hn]
        clear h0 h1 h2 h3;go_wp2_with (first | (go_at_call 237; refine(iV a _).mono ?_; rintro e w2 ⟨rfl,rfl⟩) | (go_at_call 175; refine(Ld ib _).mono ?_; rintro e w2 ⟨rfl,rfl⟩));go_ret;exact⟨rD HF.out.symm,hc.alloc _⟩
      . have HF:Hid (fe a x=0):=by unfold fe; rw [if_neg (by omega)]; exact rfl
        have HR:Hid (∀ wq:World,ah wr wq []->DJ w a b c d x y z u ib q op (.int .i64 (1:Nat)) wq):=fun wq hq =>
         ⟨1,by omega,rfl,fun _=>HF.out,by omega,by omega,by omega,(abj.out).aj hq (by simp),(abk.out).aj hq (by simp),hc.trans hq (by simp)⟩
        clear h0 h1 h2 h3;go_wp2_with (first | (go_at_call 237; refine(iV a _).mono ?_; rintro e w2 ⟨rfl,rfl⟩) | (go_at_call 175; refine(Ld ib _).mono ?_; rintro e w2 ⟨rfl,rfl⟩));go_roundw
        case rel=>exact HR.out _ ((ah.refl _ _).alloc _)
        case measure=>simp [intOf]
  . have q0:=hbq.cell' (i:=3) rfl
    have q1:=hbq.cell' (i:=4) rfl;have q2:=hbq.cell' (i:=5) rfl;clear hbi hbq;by_cases g:y<lo b
    . have HF : Hid (iG a b c d x y z u=er b) := by
       have hf:fe b y=er b:=by unfold fe; rw [if_pos (.inl g)]
       have hn:=yY b;show iG a b c d x y z u=er b;unfold iG;simp [hf,hn,h0 (by omega)]
      clear h0 h1 h2 h3;go_wp2_with (first | (go_at_call 237; refine(iV b _).mono ?_; rintro e w2 ⟨rfl,rfl⟩) | (go_at_call 176; refine(Le ib _).mono ?_; rintro e w2 ⟨rfl,rfl⟩));go_ret;exact⟨rD HF.out.symm,hc.alloc _⟩
    . by_cases g2:hi b<y
      . have HF : Hid (iG a b c d x y z u=er b) := by
         have hf:fe b y=er b:=by unfold fe; rw [if_pos (.inr g2)]
         have hn:=yY b;show iG a b c d x y z u=er b;unfold iG;simp [hf,hn,h0 (by omega)]
        clear h0 h1 h2 h3;go_wp2_with (first | (go_at_call 237; refine(iV b _).mono ?_; rintro e w2 ⟨rfl,rfl⟩) | (go_at_call 176; refine(Le ib _).mono ?_; rintro e w2 ⟨rfl,rfl⟩));go_ret;exact⟨rD HF.out.symm,hc.alloc _⟩
      . have HF:Hid (fe b y=0):=by unfold fe; rw [if_neg (by omega)]; exact rfl
        have HR:Hid (∀ wq:World,ah wr wq []->DJ w a b c d x y z u ib q op (.int .i64 (2:Nat)) wq):=fun wq hq =>
         ⟨2,by omega,rfl,fun _=>h0 (by omega),fun _=>HF.out,by omega,by omega,(abj.out).aj hq (by simp),(abk.out).aj hq (by simp),hc.trans hq (by simp)⟩
        clear h0 h1 h2 h3;go_wp2_with (first | (go_at_call 237; refine(iV b _).mono ?_; rintro e w2 ⟨rfl,rfl⟩) | (go_at_call 176; refine(Le ib _).mono ?_; rintro e w2 ⟨rfl,rfl⟩));go_roundw
        case rel=>exact HR.out _ ((ah.refl _ _).alloc _)
        case measure=>simp [intOf]
  . have q0:=hbq.cell' (i:=6) rfl
    have q1:=hbq.cell' (i:=7) rfl;have q2:=hbq.cell' (i:=8) rfl;clear hbi hbq;by_cases g:z<lo c
    . have HF : Hid (iG a b c d x y z u=er c) := by
       have hf:fe c z=er c:=by unfold fe; rw [if_pos (.inl g)]
       have hn:=yY c;show iG a b c d x y z u=er c;unfold iG;simp [hf,hn,h0 (by omega),h1 (by omega)]
      clear h0 h1 h2 h3;go_wp2_with (first | (go_at_call 237; refine(iV c _).mono ?_; rintro e w2 ⟨rfl,rfl⟩) | (go_at_call 177; refine(Lh ib _).mono ?_; rintro e w2 ⟨rfl,rfl⟩));go_ret;exact⟨rD HF.out.symm,hc.alloc _⟩
    . by_cases g2:hi c<z
      . have HF : Hid (iG a b c d x y z u=er c) := by
         have hf:fe c z=er c:=by unfold fe; rw [if_pos (.inr g2)]
         have hn:=yY c;show iG a b c d x y z u=er c;unfold iG;simp [hf,hn,h0 (by omega),h1 (by omega)]
        clear h0 h1 h2 h3;go_wp2_with (first | (go_at_call 237; refine(iV c _).mono ?_; rintro e w2 ⟨rfl,rfl⟩) | (go_at_call 177; refine(Lh ib _).mono ?_; rintro e w2 ⟨rfl,rfl⟩));go_ret;exact⟨rD HF.out.symm,hc.alloc _⟩
      . have HF:Hid (fe c z=0):=by unfold fe; rw [if_neg (by omega)]; exact rfl
        have HR:Hid (∀ wq:World,ah wr wq []->DJ w a b c d x y z u ib q op (.int .i64 (3:Nat)) wq):=fun wq hq =>
         ⟨3,by omega,rfl,fun _=>h0 (by omega),fun _=>h1 (by omega),fun _=>HF.out,by omega,(abj.out).aj hq (by simp),(abk.out).aj hq (by simp),hc.trans hq (by simp)⟩
        clear h0 h1 h2 h3;go_wp2_with (first | (go_at_call 237; refine(iV c _).mono ?_; rintro e w2 ⟨rfl,rfl⟩) | (go_at_call 177; refine(Lh ib _).mono ?_; rintro e w2 ⟨rfl,rfl⟩));go_roundw
        case rel=>exact HR.out _ ((ah.refl _ _).alloc _)
        case measure=>simp [intOf]
  . have q0:=hbq.cell' (i:=9) rfl
    have q1:=hbq.cell' (i:=10) rfl;have q2:=hbq.cell' (i:=11) rfl;clear hbi hbq;by_cases g:u<lo d
    . have HF : Hid (iG a b c d x y z u=er d) := by
       have hf:fe d u=er d:=by unfold fe; rw [if_pos (.inl g)]
       have hn:=yY d;show iG a b c d x y z u=er d;unfold iG;simp [hf,h0 (by omega),h1 (by omega),h2 (by omega)]
      clear h0 h1 h2 h3;go_wp2_with (first | (go_at_call 237; refine(iV d _).mono ?_; rintro e w2 ⟨rfl,rfl⟩) | (go_at_call 178; refine(Lj ib _).mono ?_; rintro e w2 ⟨rfl,rfl⟩));go_ret;exact⟨rD HF.out.symm,hc.alloc _⟩
    . by_cases g2:hi d<u
      . have HF : Hid (iG a b c d x y z u=er d) := by
         have hf:fe d u=er d:=by unfold fe; rw [if_pos (.inr g2)]
         have hn:=yY d;show iG a b c d x y z u=er d;unfold iG;simp [hf,h0 (by omega),h1 (by omega),h2 (by omega)]
        clear h0 h1 h2 h3;go_wp2_with (first | (go_at_call 237; refine(iV d _).mono ?_; rintro e w2 ⟨rfl,rfl⟩) | (go_at_call 178; refine(Lj ib _).mono ?_; rintro e w2 ⟨rfl,rfl⟩));go_ret;exact⟨rD HF.out.symm,hc.alloc _⟩
      . have HF:Hid (fe d u=0):=by unfold fe; rw [if_neg (by omega)]; exact rfl
        have HR:Hid (∀ wq:World,ah wr wq []->DJ w a b c d x y z u ib q op (.int .i64 (4:Nat)) wq):=fun wq hq =>
         ⟨4,by omega,rfl,fun _=>h0 (by omega),fun _=>h1 (by omega),fun _=>h2 (by omega),fun _=>HF.out,(abj.out).aj hq (by simp),(abk.out).aj hq (by simp),hc.trans hq (by simp)⟩
        clear h0 h1 h2 h3;go_wp2_with (first | (go_at_call 237; refine(iV d _).mono ?_; rintro e w2 ⟨rfl,rfl⟩) | (go_at_call 178; refine(Lj ib _).mono ?_; rintro e w2 ⟨rfl,rfl⟩));go_roundw
        case rel=>exact HR.out _ ((ah.refl _ _).alloc _)
        case measure=>simp [intOf]
  . have HF : Hid (iG a b c d x y z u=0) := by
     show iG a b c d x y z u=0;unfold iG;simp [h0 (by omega),h1 (by omega),h2 (by omega),h3 (by omega)]
    clear h0 h1 h2 h3;go_wp2;go_ret;exact⟨rD HF.out.symm,hc⟩
theorem check_any (op x y z u:Int) (w:World) :
 Calls Tryz.prog 170 #[kK op x y z u] w fun e w'=>e=.returned (.int .i64 (chk op x y z u))/\ah w w' []:=by
 have hsh:jQ op=[]\/∃ a b c d,jQ op=[a,b,c,d]:=by
  rcases fU op with⟨_,e⟩ | ⟨_,e⟩ | ⟨_,e⟩ | ⟨_,e⟩ | ⟨_,e⟩ | ⟨_,e⟩ | ⟨_,e⟩ | ⟨_,e⟩ | ⟨_,e⟩ | ⟨_,e⟩
  . exact .inl e
  all_goals exact .inr ⟨_,_,_,_,e⟩
 rcases hsh with h | ⟨a,b,c,d,h⟩
 . have e:chk op x y z u=2:=by unfold chk; rw [h]
   rw [e];exact abg op x y z u w h
 . have e:chk op x y z u=iG a b c d x y z u:=by unfold chk; rw [h]
   rw [e];exact abh op x y z u a b c d w h
theorem UU(op:Int):jQ op=[]\/∃ a b c d,jQ op=[a,b,c,d]:=by
 rcases fU op with⟨_,e⟩ | ⟨_,e⟩ | ⟨_,e⟩ | ⟨_,e⟩ | ⟨_,e⟩ | ⟨_,e⟩ | ⟨_,e⟩ | ⟨_,e⟩ | ⟨_,e⟩ | ⟨_,e⟩
 . exact .inl e
 all_goals exact .inr ⟨_,_,_,_,e⟩
def jy (n:Int):Prop:=0<=n/\n<=31
def Fits (op x y z u:Int):Prop :=
 (1<=op/\op<=23)/\jy x/\jy y/\jy z/\u=0 \/
 (24<=op/\op<=30)/\jy x/\jy y/\z=0/\u=0 \/
 op=31/\jy x/\jy y/\z=0/\(-32768<=u/\u<=32767) \/
 (op=33\/op=40)/\jy x/\y=0/\z=0/\(0<=u/\u<=65535) \/
 (op=32\/34<=op/\op<=38)/\jy x/\jy y/\z=0/\(0<=u/\u<=65535) \/
 op=39/\x=0/\y=0/\z=0/\(0<=u/\u<=65535) \/
 op=41/\x=0/\jy y/\z=0/\u=0 \/
 (op=42\/op=43)/\x=0/\y=0/\z=0/\u=0
theorem sH(l:UInt8)(n:Int):fe l n=0↔lo l<=n/\n<=hi l:=by
 unfold fe;have:=yY l;split<;>simp [*]<;>omega
theorem mO(a b c d:UInt8)(x y z u:Int):iG a b c d x y z u=0↔fe a x=0/\fe b y=0/\fe c z=0/\fe d u=0:=by
 unfold iG;by_cases h1:fe a x=0<;>by_cases h2:fe b y=0<;>by_cases h3:fe c z=0<;>simp [h1,h2,h3]
theorem lS(op x y z u:Int):chk op x y z u=0↔Fits op x y z u:=by
 unfold chk Fits jy;rcases fU op with⟨h,e⟩ | ⟨h,e⟩ | ⟨h,e⟩ | ⟨h,e⟩ | ⟨h,e⟩ | ⟨h,e⟩ | ⟨h,e⟩ | ⟨h,e⟩ | ⟨h,e⟩ | ⟨h,e⟩
 . rw [e]
   constructor
   . intro h'; simp at h'
   . rintro (h' | h' | h' | h' | h' | h' | h' | h')<;>omega
 . rw [e]
   simp only [mO,sH,show lo 45=0 from rfl,show hi 45=0 from rfl,show lo 97=0 from rfl,show hi 97=31 from rfl,show lo 98=0 from rfl,show hi 98=31 from rfl,show lo 100=0 from rfl,show hi 100=31 from rfl];clear e;constructor
   . intro h'
     exact .inl ⟨by omega,by omega,by omega,by omega,by omega⟩
   . rintro (h' | h' | h' | h' | h' | h' | h' | h')<;>omega
 . rw [e]
   simp only [mO,sH,show lo 45=0 from rfl,show hi 45=0 from rfl,show lo 97=0 from rfl,show hi 97=31 from rfl,show lo 100=0 from rfl,show hi 100=31 from rfl];clear e;constructor
   . intro h'
     exact .inr (.inl ⟨by omega,by omega,by omega,by omega,by omega⟩)
   . rintro (h' | h' | h' | h' | h' | h' | h' | h')<;>omega
 . rw [e]
   simp only [mO,sH,show lo 45=0 from rfl,show hi 45=0 from rfl,show lo 97=0 from rfl,show hi 97=31 from rfl,show lo 100=0 from rfl,show hi 100=31 from rfl,show lo 115=-32768 from rfl,show hi 115=32767 from rfl];clear e;constructor
   . intro h'
     exact .inr (.inr (.inl ⟨by omega,by omega,by omega,by omega,by omega⟩))
   . rintro (h' | h' | h' | h' | h' | h' | h' | h')<;>omega
 . rw [e]
   simp only [mO,sH,show lo 45=0 from rfl,show hi 45=0 from rfl,show lo 100=0 from rfl,show hi 100=31 from rfl,show lo 117=0 from rfl,show hi 117=65535 from rfl];clear e;constructor
   . intro h'
     exact .inr (.inr (.inr (.inl ⟨by omega,by omega,by omega,by omega,by omega⟩)))
   . rintro (h' | h' | h' | h' | h' | h' | h' | h')<;>omega
 . rw [e]
   simp only [mO,sH,show lo 45=0 from rfl,show hi 45=0 from rfl,show lo 100=0 from rfl,show hi 100=31 from rfl,show lo 117=0 from rfl,show hi 117=65535 from rfl];clear e;constructor
   . intro h'
     exact .inr (.inr (.inr (.inl ⟨by omega,by omega,by omega,by omega,by omega⟩)))
   . rintro (h' | h' | h' | h' | h' | h' | h' | h')<;>omega
 . rw [e]
   simp only [mO,sH,show lo 45=0 from rfl,show hi 45=0 from rfl,show lo 97=0 from rfl,show hi 97=31 from rfl,show lo 100=0 from rfl,show hi 100=31 from rfl,show lo 117=0 from rfl,show hi 117=65535 from rfl];clear e;constructor
   . intro h'
     exact .inr (.inr (.inr (.inr (.inl ⟨by omega,by omega,by omega,by omega,by omega⟩))))
   . rintro (h' | h' | h' | h' | h' | h' | h' | h')<;>omega
 . rw [e]
   simp only [mO,sH,show lo 45=0 from rfl,show hi 45=0 from rfl,show lo 117=0 from rfl,show hi 117=65535 from rfl];clear e;constructor
   . intro h'
     exact .inr (.inr (.inr (.inr (.inr (.inl ⟨by omega,by omega,by omega,by omega,by omega⟩)))))
   . rintro (h' | h' | h' | h' | h' | h' | h' | h')<;>omega
 . rw [e]
   simp only [mO,sH,show lo 45=0 from rfl,show hi 45=0 from rfl,show lo 97=0 from rfl,show hi 97=31 from rfl];clear e;constructor
   . intro h'
     exact .inr (.inr (.inr (.inr (.inr (.inr (.inl ⟨by omega,by omega,by omega,by omega,by omega⟩))))))
   . rintro (h' | h' | h' | h' | h' | h' | h' | h')<;>omega
 . rw [e]
   simp only [mO,sH,show lo 45=0 from rfl,show hi 45=0 from rfl];clear e;constructor
   . intro h'
     exact .inr (.inr (.inr (.inr (.inr (.inr (.inr (⟨by omega,by omega,by omega,by omega,by omega⟩)))))))
   . rintro (h' | h' | h' | h' | h' | h' | h' | h')<;>omega
def pK (op x y z u:Int):Nat->Int
 | 0=>op*67108864
 | 1=>op*67108864+x*2097152
 | 2=>op*67108864+x*2097152+y*65536
 | 3=>op*67108864+x*2097152+y*65536+z*2048
 | _=>op*67108864+x*2097152+y*65536+z*2048+u%65536
theorem TB(x:Int)(h0:0<=x)(h1:x<4294967296):bits .and .u32 x 31=x%32:=by
 rw [u32_and x 31 h0 h1 (by omega) (by omega)];have:(x.toNat &&& (31:Int).toNat)=x.toNat%32:=nat_mask5 _;rw [this]; omega
theorem UW(x:Int)(h0:0<=x)(h1:x<4294967296):bits .and .u32 x 65535=x%65536:=by
 rw [u32_and x 65535 h0 h1 (by omega) (by omega)];have:(x.toNat &&& (65535:Int).toNat)=x.toNat%65536:=nat_mask16 _;rw [this]; omega
theorem DK(j:Nat)(a b:Int)(h0:0<=a)(h1:a<4294967296)(h2:0<=b)(h3:b<4294967296)(ha:a%((2 ^ j:Nat):Int)=0)(hb:b<((2 ^ j:Nat):Int)):bits .or .u32 a b=a+b:=by
 rw [u32_or a b h0 h1 h2 h3]
 have e:a.toNat%2 ^ j=0:=by
  have:((a.toNat%2 ^ j:Nat):Int)=0:=by rw [Int.natCast_emod,Int.toNat_of_nonneg h0]; exact ha
  exact_mod_cast this
 have e2:b.toNat<2 ^ j:=by omega
 rw [nat_join j _ _ e e2]; omega
theorem CZ{op x y z u:Int}(h:Fits op x y z u):(1<=op/\op<=43)/\(0<=x/\x<=31)/\(0<=y/\y<=31)/\(0<=z/\z<=31)/\(-32768<=u/\u<=65535)/\(z=0\/u=0):=by
 unfold Fits jy at h; omega
theorem enc1{op x:Int}(ho:1<=op/\op<=43)(hx:0<=x/\x<=31):bits .or .u32 (op*67108864) (bits .and .u32 x 31*2097152%4294967296)=op*67108864+x*2097152:=by
 rw [TB x (by omega) (by omega),show x%32*2097152%4294967296=x*2097152 by omega];exact DK 26 _ _ (by omega) (by omega) (by omega) (by omega) (by omega) (by omega)
theorem enc2{op x y:Int}(ho:1<=op/\op<=43)(hx:0<=x/\x<=31)(hy:0<=y/\y<=31):bits .or .u32 (op*67108864+x*2097152) (bits .and .u32 y 31*65536%4294967296)=op*67108864+x*2097152+y*65536:=by
 rw [TB y (by omega) (by omega),show y%32*65536%4294967296=y*65536 by omega];exact DK 21 _ _ (by omega) (by omega) (by omega) (by omega) (by omega) (by omega)
theorem enc3{op x y z:Int}(ho:1<=op/\op<=43)(hx:0<=x/\x<=31)(hy:0<=y/\y<=31)(hz:0<=z/\z<=31):bits .or .u32 (op*67108864+x*2097152+y*65536) (bits .and .u32 z 31*2048%4294967296)=op*67108864+x*2097152+y*65536+z*2048:=by
 rw [TB z (by omega) (by omega),show z%32*2048%4294967296=z*2048 by omega];exact DK 16 _ _ (by omega) (by omega) (by omega) (by omega) (by omega) (by omega)
theorem enc4{op x y z u:Int}(ho:1<=op/\op<=43)(hx:0<=x/\x<=31)(hy:0<=y/\y<=31)(hz:0<=z/\z<=31)(hzu:z=0\/u=0):bits .or .u32 (op*67108864+x*2097152+y*65536+z*2048) (bits .and .u32 (u%4294967296) 65535%4294967296)=op*67108864+x*2097152+y*65536+z*2048+u%65536:=by
 rw [UW _ (by omega) (by omega),show u%4294967296%65536%4294967296=u%65536 by omega];rcases hzu with rfl | rfl
 . exact DK 16 _ _ (by omega) (by omega) (by omega) (by omega) (by omega) (by omega)
 . exact DK 0 _ _ (by omega) (by omega) (by omega) (by omega) (by omega) (by omega)
def fx(l:UInt8)(n:Int):Int:=if l=45 then 0 else if l=115 then IntKind.i16.wrap n else n
def dx(n:Int)(l:UInt8):Int:=fx l (n / 2097152%32)
def dy(n:Int)(l:UInt8):Int:=fx l (n / 65536%32)
def dz(n:Int)(l:UInt8):Int:=fx l (n / 2048%32)
def du(n:Int)(l:UInt8):Int:=fx l (n%65536)
theorem Ll(n:Int):IntKind.i16.wrap n=(n+32768)%65536 - 32768:=by
 simp [IntKind.wrap,IntKind.bits,IntKind.signed];split<;>omega
theorem Jd(r:Int)(h0:0<=r)(h1:r<4294967296):wrap64 (bits .and .u32 r 31)=r%32:=by
 rw [TB r h0 h1]; unfold wrap64; omega
theorem UY(r:Int)(h0:0<=r)(h1:r<4294967296):wrap64 (bits .and .u32 r 65535)=r%65536:=by
 rw [UW r h0 h1]; unfold wrap64; omega
theorem abl(m:Int):wrap64 (IntKind.i16.wrap m)=IntKind.i16.wrap m:=by rw [Ll]; unfold wrap64; omega
theorem TD(l:UInt8)(m:Int)(h0:0<=m)(h:m<=31\/m<=65535/\(l=45\/l=115\/l=117)):fe l (fx l m)=0:=by
 rw [sH];unfold fx lo hi;by_cases h1:l=45
 . rw [if_pos h1,if_pos h1]; split<;>omega
 . by_cases h2:l=115
   . rw [if_neg h1,if_pos h2,if_neg h1,if_pos h2,if_pos h2,Ll]; omega
   . by_cases h3:l=117
     . rw [if_neg h1,if_neg h2,if_neg h1,if_neg h2,if_neg h2,if_pos h3]; omega
     . rw [if_neg h1,if_neg h2,if_neg h1,if_neg h2,if_neg h2,if_neg h3]; simp [h1,h2,h3] at h; omega
theorem ahU{op:Int}{a b c d:UInt8}(h:jQ op=[a,b,c,d]):d=45\/d=115\/d=117:=by
 rcases fU op with⟨_,e⟩ | ⟨_,e⟩ | ⟨_,e⟩ | ⟨_,e⟩ | ⟨_,e⟩ | ⟨_,e⟩ | ⟨_,e⟩ | ⟨_,e⟩ | ⟨_,e⟩ | ⟨_,e⟩
 all_goals
  rw [e] at h
  first | (simp at h; done) | (injection h with _ h; injection h with _ h; injection h with _ h; injection h with h _; subst h; simp)
theorem amc{op n:Int}{a b c d:UInt8}(hn:0<=n)(h:jQ op=[a,b,c,d]):chk op (dx n a) (dy n b) (dz n c) (du n d)=0:=by
 unfold chk;rw [h];show iG a b c d _ _ _ _=0;rw [mO];exact⟨TD _ _ (by omega) (.inl (by omega)),TD _ _ (by omega) (.inl (by omega)),TD _ _ (by omega) (.inl (by omega)),TD _ _ (by omega) (.inr ⟨by omega,ahU h⟩)⟩
end

section
structure aW where
 op:Int
 d:Int
 a:Int
 b:Int
 n:Int
 deriving DecidableEq
abbrev Nm:=List UInt8
def xG(c:UInt8):Bool:=decide (97<=c.toNat)&&decide (c.toNat<=122)
def kX(c:UInt8):Bool:=xG c||(decide (48<=c.toNat)&&decide (c.toNat<=57))||c==95
def qJ (s:Nm):Bool:=match s with
 | []=>false
 | c::r=>decide (r.length<24)&&xG c&&r.all kX
structure BM where
 code:List aW
 defs:List (Nm×Int)
 uses:List (Nm×Int)
def gJ(l:List (Nm×Int))(s:Nm):Option Int:=(l.find? fun p=>p.1==s).map (·.2)
def jV (i:aW):Int:=chk i.op i.d i.a i.b i.n
def G9(m:BM)(i:aW):Int×BM:=if jV i≠0 then(jV i,m) else(0,{ m with code:=m.code++[i] })
def pO(m:BM)(s:Nm)(at_:Int):Int×BM:=if qJ s=false then(8,m) else if(gJ m.defs s).isSome then(9,m) else(0,{ m with defs:=m.defs++[(s,at_)] })
def BJ(op:Int):Bool:=decide (36<=op)&&decide (op<=40)
def Nq(m:BM)(op d a:Int)(s:Nm):Int×BM :=
 if BJ op=false then(2,m) else if jV ⟨op,d,a,0,0⟩≠0 then(jV ⟨op,d,a,0,0⟩,m) else if qJ s=false then(8,m) else
  (0,{ m with uses:=m.uses++[(s,(m.code.length:Int))],code:=m.code++[⟨op,d,a,0,0⟩] })
def jA(d:Int):Bool:=decide (0<=d)&&decide (d<=31)
def wo(d n:Int):List aW:=if -32768<=n/\n<=32767 then [⟨31,d,0,0,n⟩] else [⟨33,d,0,0,n%4294967296 / 65536⟩,⟨32,d,d,0,n%65536⟩]
def Lm(m:BM)(d n:Int):Int×BM:=if jA d=false then(6,m) else(0,{ m with code:=m.code++wo d n })
def yZ(c l n:Int):Bool:=jA c&&jA l&&decide (c≠0)&&decide (l≠0)&&decide (c≠l)&&decide (1<=n)&&decide (n<=32767)
def rH(m:BM)(c l n:Int)(s:Nm):Int×BM :=
 if yZ c l n=false then(6,m) else if qJ s=false then(8,m) else if(gJ m.defs s).isSome then(9,m) else
  (0,{ m with defs:=m.defs++[(s,((m.code.length:Int)+2))],code:=m.code++[⟨31,c,0,0,0⟩,⟨31,l,0,0,n⟩] })
def Nr (m:BM) (c l:Int) (s:Nm):BM :=
 { m with uses:=m.uses++[(s,(m.code.length:Int)+1)],code:=m.code++[⟨31,c,c,0,1⟩,⟨38,c,l,0,0⟩] }
def mP(defs:List (Nm×Int)):List (Nm×Int)->Except Nm (List (Int×Int))
 | []=>.ok []
 | (s,p)::r=>match gJ defs s with
  | none=>.error s
  | some t=>match mP defs r with
   | .error e=>.error e
   | .ok l=>.ok ((p,t)::l)
def zh(l:List (Int×Int))(k:Int):Option Int:=l.foldl (fun acc p=>if p.1=k then some p.2 else acc) none
def encI(i:aW):Int:=if jV i=0 then pK i.op i.d i.a i.b i.n 4 else 0
def patched(fx:List (Int×Int))(k:Nat)(i:aW):aW:=match zh fx k with | some t=>{ i with n:=t } | none=>i
def uP(fx:List (Int×Int))(code:List aW):List Int:=code.mapIdx fun k i=>encI (patched fx k i)
def Lp(m:BM):List Int×Nm×Int:=match mP m.defs m.uses with
 | .error s=>([],s,10)
 | .ok fx=>if 16384<m.code.length then([],[],5) else(uP fx m.code,[],0)
end

section
open Go.RowKit Go.Maps
def lK (w:World) (kty:TypeId) (m n:Nat) (f:Lit->Option Int):Prop :=
 ∃ D:DataW Unit,w.ownsMap Tryz.prog kty (plainElem Tryz.prog 3) m n D/\IsMap D/\∀ k,WideAt.IsKeyLit k->Maps.has D k=(f k).isSome/\D.atKey k (.lit (.int .i64 0))=.lit (.int .i64 ((f k).getD 0))
theorem lK.made(w:World)(kty:TypeId):lK (w.alloc (.map #[] 0)) kty w.heap.size 0 fun _=>none :=
 ⟨.map [],World.ownsMap_made _ _ _ _,isMap_empty,fun k _=>⟨rfl,rfl⟩⟩
theorem lK.lt{w:World}{kty:TypeId}{m n:Nat}{f:Lit->Option Int}(h:lK w kty m n f):m<w.heap.size:=by
 obtain⟨D,⟨es,clock,hb,_⟩,_⟩:=h;exact lt_of_heap hb
theorem lK.obj{w:World}{kty:TypeId}{m n:Nat}{f:Lit->Option Int}(h:lK w kty m n f):∃ es c,w.heap[m]?=some (.map es c):=by
 obtain⟨D,⟨es,clock,hb,_⟩,_⟩:=h;exact⟨es,clock,hb⟩
theorem lK.aj {w w':World} {kty:TypeId} {m n:Nat} {f:Lit->Option Int} {L:List Nat} (h:lK w kty m n f) (hc:ah w w' L) (hm:m∉L):lK w' kty m n f:=by
 obtain⟨D,⟨es,clock,hb,hr⟩,hx⟩:=h;exact⟨D,⟨es,clock,hc.heap hb hm,hr⟩,hx⟩
theorem lK.alloc {w:World} {kty:TypeId} {m n:Nat} {f:Lit->Option Int} (h:lK w kty m n f) (o:Obj):lK (w.alloc o) kty m n f:=h.aj ((ah.refl w []).alloc o) (by simp)
theorem ahX(w:World):(zeroValue 3).run Tryz.prog w=.ok (.int .i64 0) w:=by kernel_rfl
open Classical in
noncomputable def Lr (f:Lit->Option Int) (kl:Lit) (v:Int):Lit->Option Int:=fun k=>if k=kl then some v else f k
theorem qK {w:World} {ops:Array Oper} {rest:List Oper} {o:Oper} {a:Act} {Q:Exit->Act->World->Prop}
 (hg:o.guard=none) (mo x:Operand) (t:TypeId) (hop:o.op=Op.lookup t mo x true)
 (kty:TypeId) (K:Keyed Tryz.prog kty) (ht:Tryz.prog.underlying t=some (.map kty 3)) (m n:Nat) (f:Lit->Option Int)
 (hm:a.eval mo=.map (some m)) (hM:lK w kty m n f) (key:Value) (kl:Lit) (hx:a.eval x=key) (hkey:keyOf Tryz.prog kty key=some kl) (hk:WideAt.IsKeyLit kl)
 (hK:wpList Tryz.prog ops Q rest (a.put o.dst (.tuple #[.int .i64 ((f kl).getD 0),.bool (f kl).isSome])) w) :
 wpList Tryz.prog ops Q (o::rest) a w:=by
 obtain⟨D,hown,hD,hf⟩:=hM;refine wpList_lookup_own_ok_int w hg mo x t hop kty 3 .i64 K ht Tryz.underlying3 (ahX w) m n D hm hown key kl hx hkey ?_;intro c hc _;obtain⟨h1,h2⟩:=hf kl hk;rw [h2] at hc;injection hc with hc;injection hc with _ hc;rw [h1,<- hc];exact hK
theorem JZ {w:World} {ops:Array Oper} {rest:List Oper} {o:Oper} {a:Act} {Q:Exit->Act->World->Prop}
 (hg:o.guard=none) (mo x v:Operand) (t:TypeId) (hop:o.op=Op.mapUpdate t mo x v)
 (kty:TypeId) (K:Keyed Tryz.prog kty) (ht:Tryz.prog.underlying t=some (.map kty 3)) (m n:Nat) (f:Lit->Option Int)
 (hm:a.eval mo=.map (some m)) (hM:lK w kty m n f) (hn:n<maxLen) (key:Value) (kl:Lit) (hx:a.eval x=key) (hkey:keyOf Tryz.prog kty key=some kl) (hk:WideAt.IsKeyLit kl) (z:Int)
 (hv:a.eval v=.int .i64 z) (hz:(Lit.int .i64 z).wf=true)
 (hK:∀ w',lK w' kty m (n+1) (Lr f kl z)->ah w w' [m]->wpList Tryz.prog ops Q rest (a.put o.dst undef) w') :
 wpList Tryz.prog ops Q (o::rest) a w:=by
 obtain⟨D,hown,hD,hf⟩:=hM;refine wpList_mapUpdate_own w hg mo x v t hop kty 3 K ht (plainElem Tryz.prog 3) m n D hm hown hn key (.int .i64 z) kl hx hv hkey (.lit (.int .i64 z)) [] (plainElem_int Tryz.underlying3 hz) ?_;intro w' h1 h2;refine hK w' ⟨_,h1,hD.put kl _,fun k hkk=>?_⟩ (ah.fZ h2 (fun k hk=>.inl (by simp at hk; simp [hk])));unfold Lr;by_cases e:k=kl
 . subst e
   rw [if_pos rfl,has_put_same hD hk,atKey_put_same hD hk];exact⟨rfl,rfl⟩
 . rw [if_neg e,has_put_other e,atKey_put_other e]
   exact hf k hkk
end

section
open Go.RowKit Go.Deep
theorem atz(ib:Nat)(w:World):Calls Tryz.prog 175 #[.pointer (some ⟨ib,0,none⟩)] w fun e w'=>e=.returned (.pointer (some ⟨ib,1,none⟩))/\w'=w:=(Ld ib w).mono fun _ _ ⟨h,h'⟩=>⟨h,h'.symm⟩
theorem atA(ib:Nat)(w:World):Calls Tryz.prog 176 #[.pointer (some ⟨ib,0,none⟩)] w fun e w'=>e=.returned (.pointer (some ⟨ib,2,none⟩))/\w'=w:=(Le ib w).mono fun _ _ ⟨h,h'⟩=>⟨h,h'.symm⟩
theorem atB(ib:Nat)(w:World):Calls Tryz.prog 177 #[.pointer (some ⟨ib,0,none⟩)] w fun e w'=>e=.returned (.pointer (some ⟨ib,3,none⟩))/\w'=w:=(Lh ib w).mono fun _ _ ⟨h,h'⟩=>⟨h,h'.symm⟩
theorem atC(ib:Nat)(w:World):Calls Tryz.prog 178 #[.pointer (some ⟨ib,0,none⟩)] w fun e w'=>e=.returned (.pointer (some ⟨ib,4,none⟩))/\w'=w:=(Lj ib w).mono fun _ _ ⟨h,h'⟩=>⟨h,h'.symm⟩
theorem abw (op x y z u:Int) (w:World) (h:chk op x y z u≠0) :
 Calls Tryz.prog 112 #[kK op x y z u] w fun e w'=>e=.returned (.tuple #[.int .u32 0,.int .i64 (chk op x y z u)])/\ah w w' []:=by
 have hb:(chk op x y z u != 0)=true:=by rw [bne_iff_ne]; exact h
 have hc:=check_any op x y z u (w.alloc (.cells #[.int .i64 op,.int .i64 x,.int .i64 y,.int .i64 z,.int .i64 u] 126));have HC:=hide hc;clear hc h;generalize chk op x y z u=e0 at *;go_enter Tryz.func112,Tryz.ntmps112
 go_wp2_with (go_at_call 170; refine HC.out.mono ?_; rintro e w1 ⟨rfl,hc⟩);go_ret2;exact⟨rfl,((ah.refl _ _).alloc _).trans hc (by simp)⟩
def aeD (w:World) (op x y z u:Int) (ib q:Nat) (s v:Value) (wr:World):Prop :=
 ∃ k:Nat,k<=4/\v=.int .i64 (k:Int)/\s=.int .u32 (pK op x y z u k)/\aC wr ib 126 (kV op x y z u)/\aC wr q 189 qH/\ah w wr []
theorem C_(op x y z u:Int)(w:World)(h0:chk op x y z u=0) :
 Calls Tryz.prog 112 #[kK op x y z u] w fun e w'=>e=.returned (.tuple #[.int .u32 (pK op x y z u 4),.int .i64 0])/\ah w w' []:=by
 have hfit:=CZ ((lS op x y z u).1 h0);obtain⟨⟨ho1,ho2⟩,hx,hy,hz,hu,hzu⟩:=hfit;have HZU:=hide hzu;clear hzu
 obtain ⟨a,b,c,d,h⟩:∃ a b c d,jQ op = [a,b,c,d]:=by
  rcases UU op with h | h
  . rw [show chk op x y z u=2 by unfold chk; rw [h]] at h0; omega
  . exact h
 go_enter Tryz.func112,Tryz.ntmps112
 go_wp2_with fail
 have hib:aC (w.alloc (.cells (kV op x y z u).toArray 126)) w.heap.size 126 (kV op x y z u):=aC.new _ _ _;have hc0:ah w (w.alloc (.cells (kV op x y z u).toArray 126)) []:=(ah.refl _ _).alloc _;generalize hib0:w.heap.size=ib at *;have HI:=hide hib0;clear hib0;generalize w.alloc (.cells #[.int .i64 op,.int .i64 x,.int .i64 y,.int .i64 z,.int .i64 u] 126)=w0 at *;refine(check_any op x y z u _).mono ?_;rintro e w1 ⟨rfl,hc1⟩;rw [h0];have H0:=hide h0;clear h0;replace hib:=hib.aj hc1 (by simp);replace hc0:=hc0.trans hc1 (by simp);clear hc1;have c0:=hib.cell' (i:=0) rfl;go_wp2_with fail
 refine(qG op _).mono ?_;rintro e w2 ⟨rfl,rfl⟩;rw [h];have H:=hide h;clear h;go_wp2_with fail
 refine(EI a b c d _).mono ?_;rintro e w2 ⟨rfl,rfl⟩;go_wp2_with fail
 have hstart:aeD w op x y z u ib w1.heap.size (.int .u32 (op*67108864)) (.int .i64 (0:Nat)) (w1.alloc (.cells qH.toArray 189)) :=
  ⟨0,by omega,rfl,rfl,hib.alloc _,aC.new w1 _ _,hc0.alloc _⟩
 clear hib hc0 c0;generalize w1.heap.size=q at *;generalize w1.alloc (.cells qH.toArray 189)=w2 at *;go_loopw [5,22] (fun s v wr=>aeD w op x y z u ib q s v wr) (fun _ i _=>4 - (intOf i).toNat)
 case atStart=>exact hstart
 case round =>
  clear hstart;obtain⟨k,hk,rfl,rfl,hbi,hbq,hc⟩:=hrel;have kk:k=0\/k=1\/k=2\/k=3\/k=4:=by omega
  have c1:=hbi.cell' (i:=1) rfl;have c2:=hbi.cell' (i:=2) rfl;have c3:=hbi.cell' (i:=3) rfl;have c4:=hbi.cell' (i:=4) rfl;have aoK:=hbi.lt;have aoL:=hbq.lt;have xJ:=hide hbi;have xK:=hide hbq;rcases kk with rfl | rfl | rfl | rfl | rfl
  . have q0:=hbq.cell' (i:=0) rfl
    have q1:=hbq.cell' (i:=1) rfl;have q2:=hbq.cell' (i:=2) rfl;unfold pK;clear hbi hbq;go_wp2_with fail
    go_quiet ((go_at_call 175; exact Calls.quiet_of_same (atz ib _)));go_wp2;go_roundw
    case rel=>exact⟨1,by omega,rfl,congrArg (Value.int .u32) (enc1 ⟨ho1,ho2⟩ hx),(xJ.out.alloc _).drewN _,(xK.out.alloc _).drewN _,(hc.alloc _).drewN _⟩
    case measure=>simp [intOf]
  . have q0:=hbq.cell' (i:=3) rfl
    have q1:=hbq.cell' (i:=4) rfl;have q2:=hbq.cell' (i:=5) rfl;unfold pK;clear hbi hbq;go_wp2_with fail
    go_quiet ((go_at_call 176; exact Calls.quiet_of_same (atA ib _)));go_wp2;go_roundw
    case rel=>exact⟨2,by omega,rfl,congrArg (Value.int .u32) (enc2 ⟨ho1,ho2⟩ hx hy),(xJ.out.alloc _).drewN _,(xK.out.alloc _).drewN _,(hc.alloc _).drewN _⟩
    case measure=>simp [intOf]
  . have q0:=hbq.cell' (i:=6) rfl
    have q1:=hbq.cell' (i:=7) rfl;have q2:=hbq.cell' (i:=8) rfl;unfold pK;clear hbi hbq;go_wp2_with fail
    go_quiet ((go_at_call 177; exact Calls.quiet_of_same (atB ib _)));go_wp2;go_roundw
    case rel=>exact⟨3,by omega,rfl,congrArg (Value.int .u32) (enc3 ⟨ho1,ho2⟩ hx hy hz),(xJ.out.alloc _).drewN _,(xK.out.alloc _).drewN _,(hc.alloc _).drewN _⟩
    case measure=>simp [intOf]
  . have q0:=hbq.cell' (i:=9) rfl
    have q1:=hbq.cell' (i:=10) rfl;have q2:=hbq.cell' (i:=11) rfl;unfold pK;clear hbi hbq;go_wp2_with fail
    go_quiet ((go_at_call 178; exact Calls.quiet_of_same (atC ib _)));go_wp2;go_roundw
    case rel=>exact⟨4,by omega,rfl,congrArg (Value.int .u32) (enc4 ⟨ho1,ho2⟩ hx hy hz HZU.out),(xJ.out.alloc _).drewN _,(xK.out.alloc _).drewN _,(hc.alloc _).drewN _⟩
    case measure=>simp [intOf]
  . clear hbi hbq
    go_wp2;go_ret2;exact⟨rfl,hc⟩
end

section
open Go.RowKit Go.Maps
def kY (w:World) (kty ety:TypeId) (m n:Nat) (f:Lit->Option Lit):Prop :=
 ∃ D:DataW Unit,w.ownsMap Tryz.prog kty (plainElem Tryz.prog ety) m n D/\Tidy D/\IsMap D/\∀ k,WideAt.IsKeyLit k->Maps.has D k=(f k).isSome/\∀ z,D.atKey k (.lit z)=.lit ((f k).getD z)
theorem kY.made(w:World)(kty ety:TypeId):kY (w.alloc (.map #[] 0)) kty ety w.heap.size 0 fun _=>none :=
 ⟨.map [],World.ownsMap_made _ _ _ _,tidy_empty,isMap_empty,fun k _=>⟨rfl,fun _=>rfl⟩⟩
section
variable {w w':World} {kty ety:TypeId} {m n:Nat} {f:Lit->Option Lit} {L:List Nat}
theorem kY.lt(h:kY w kty ety m n f):m<w.heap.size:=by
 obtain⟨D,⟨es,clock,hb,_⟩,_⟩:=h;exact lt_of_heap hb
theorem kY.aj (h:kY w kty ety m n f) (hc:ah w w' L) (hm:m∉L):kY w' kty ety m n f:=by
 obtain⟨D,⟨es,clock,hb,hr⟩,hx⟩:=h;exact⟨D,⟨es,clock,hc.heap hb hm,hr⟩,hx⟩
theorem kY.alloc (h:kY w kty ety m n f) (o:Obj):kY (w.alloc o) kty ety m n f:=h.aj ((ah.refl w []).alloc o) (by simp)
end
open Classical in
noncomputable def EL (f:Lit->Option Lit) (kl:Lit) (v:Lit):Lit->Option Lit:=fun k=>if k=kl then some v else f k
section
variable {w:World} {ops:Array Oper} {rest:List Oper} {o:Oper} {a:Act} {Q:Exit->Act->World->Prop} (hg:o.guard=none) (mo x:Operand) (t:TypeId)
 (kty ety:TypeId) (q:IntKind) (K:Keyed Tryz.prog kty) (m n:Nat) (f:Lit->Option Lit)
include hg K
theorem Gm(hop:o.op=Op.lookup t mo x true)(ht:Tryz.prog.underlying t=some (.map kty ety))(he:Tryz.prog.underlying ety=some (.int q))(hz:(zeroValue ety).run Tryz.prog w=.ok (.int q 0) w)
 (hm:a.eval mo=.map (some m)) (hM:kY w kty ety m n f) (key:Value) (kl:Lit) (hx:a.eval x=key) (hkey:keyOf Tryz.prog kty key=some kl) (hk:WideAt.IsKeyLit kl) (v:Int) (hv:(f kl).getD (.int q 0)=.int q v)
 (hK:wpList Tryz.prog ops Q rest (a.put o.dst (.tuple #[.int q v,.bool (f kl).isSome])) w) :
 wpList Tryz.prog ops Q (o::rest) a w:=by
 obtain⟨D,hown,hT,hD,hf⟩:=hM;refine wpList_lookup_own_ok_int w hg mo x t hop kty ety q K ht he hz m n D hm hown key kl hx hkey ?_;intro c hc _;obtain⟨h1,h2⟩:=hf kl hk;rw [h2,hv] at hc;injection hc with hc;injection hc with _ hc;rw [h1,<- hc];exact hK
theorem qO(v:Operand)(hop:o.op=Op.mapUpdate t mo x v)(ht:Tryz.prog.underlying t=some (.map kty ety))
 (hm:a.eval mo=.map (some m)) (hM:kY w kty ety m n f) (hn:n<maxLen) (key:Value) (kl:Lit) (hx:a.eval x=key) (hkey:keyOf Tryz.prog kty key=some kl) (hk:WideAt.IsKeyLit kl) (u:Value) (l:Lit)
 (hv:a.eval v=u) (hval:plainElem (H:=Unit) Tryz.prog ety u=some (.lit l,[]))
 (hK:∀ w',kY w' kty ety m (n+1) (EL f kl l)->ah w w' [m]->wpList Tryz.prog ops Q rest (a.put o.dst undef) w') :
 wpList Tryz.prog ops Q (o::rest) a w:=by
 obtain⟨D,hown,hT,hD,hf⟩:=hM;refine wpList_mapUpdate_own w hg mo x v t hop kty ety K ht (plainElem Tryz.prog ety) m n D hm hown hn key u kl hx hv hkey (.lit l) [] hval ?_;intro w' h1 h2;refine hK w' ⟨_,h1,hT.put hk _,hD.put kl _,fun k hkk=>?_⟩ (ah.fZ h2 (fun k hk=>.inl (by simp at hk; simp [hk])));unfold EL;by_cases e:k=kl
 . subst e
   rw [if_pos rfl,has_put_same hD hk];exact⟨rfl,fun z=>atKey_put_same hD hk _ _⟩
 . rw [if_neg e,has_put_other e]
   exact⟨(hf k hkk).1,fun z=>by rw [atKey_put_other e]; exact(hf k hkk).2 z⟩
end
end

section
open Go.RowKit Go.Deep
def sh (b:Int):Nat:=min (IntKind.u64.wrap (bits BinOp.and IntKind.i32 b 31)).toNat 32
def wH (a b:Int):Int:=a / 2 ^ sh b
def ug(a b:Int):Int:=wrap32 (a%4294967296*2 ^ sh b%4294967296)
def wI(a b:Int):Int:=wrap32 (a%4294967296 / 2 ^ sh b)
def Ar(a b:Int):Int:=if a<b then 1 else 0
def mV(a b:Int):Int:=if a%4294967296<b%4294967296 then 1 else 0
def DU(a b:Int):Int:=if a=b then 1 else 0
def jZ (x:Int):Int:=min (max x (-2147483648)) 2147483647
def Ji(a b:Int):Int:=jZ (a+b)
def Jj (a b:Int):Int:=jZ (a - b)
def yE (a:Int):Int:=jZ (-a)
def Az (a:Int):Int:=max a (yE a)
def zu (a:Int):Int:=a / 2147483648
theorem aeX(a b:Int)(w:World):Calls Tryz.prog 256 #[.int .i32 a,.int .i32 b] w fun e w'=>e=.returned (.int .i32 (wH a b))/\ah w w' []:=by
 have HC:=hide (ah.refl w []);go_enter Tryz.func256,Tryz.ntmps256
 go_wp2;go_ret;exact⟨rfl,HC.out⟩
theorem aeY(a b:Int)(w:World):Calls Tryz.prog 254 #[.int .i32 a,.int .i32 b] w fun e w'=>e=.returned (.int .i32 (ug a b))/\ah w w' []:=by
 go_enter Tryz.func254,Tryz.ntmps254
 go_wp2;go_ret;exact⟨rfl,(ah.refl w []).alloc _⟩
theorem aeZ(a b:Int)(w:World):Calls Tryz.prog 255 #[.int .i32 a,.int .i32 b] w fun e w'=>e=.returned (.int .i32 (wI a b))/\ah w w' []:=by
 go_enter Tryz.func255,Tryz.ntmps255
 go_wp2;go_ret;exact⟨rfl,(ah.refl w []).alloc _⟩
theorem abM(a b:Int)(w:World):Calls Tryz.prog 258 #[.int .i32 a,.int .i32 b] w fun e w'=>e=.returned (.int .i32 (Ar a b))/\w=w':=by
 by_cases h:a<b
 . have e:Ar a b=1:=by unfold Ar; rw [if_pos h]
   rw [e];go_enter Tryz.func258,Tryz.ntmps258
   go_wp2;go_ret;exact⟨rfl,rfl⟩
 . have e:Ar a b=0:=by unfold Ar; rw [if_neg h]
   rw [e];go_enter Tryz.func258,Tryz.ntmps258
   go_wp2;go_ret;exact⟨rfl,rfl⟩
theorem YF(a b:Int)(w:World):Calls Tryz.prog 259 #[.int .i32 a,.int .i32 b] w fun e w'=>e=.returned (.int .i32 (mV a b))/\w=w':=by
 by_cases h:a%4294967296<b%4294967296
 . have e:mV a b=1:=by unfold mV; rw [if_pos h]
   rw [e];go_enter Tryz.func259,Tryz.ntmps259
   go_wp2;go_ret;exact⟨rfl,rfl⟩
 . have e:mV a b=0:=by unfold mV; rw [if_neg h]
   rw [e];go_enter Tryz.func259,Tryz.ntmps259
   go_wp2;go_ret;exact⟨rfl,rfl⟩
theorem abN(a b:Int)(w:World):Calls Tryz.prog 260 #[.int .i32 a,.int .i32 b] w fun e w'=>e=.returned (.int .i32 (DU a b))/\w=w':=by
 by_cases h:a=b
 . have e:DU a b=1:=by unfold DU; rw [if_pos h]
   rw [e];subst h;go_enter Tryz.func260,Tryz.ntmps260
   go_wp2;go_ret;exact⟨rfl,rfl⟩
 . have e:DU a b=0:=by unfold DU; rw [if_neg h]
   rw [e];have hb:(a==b)=false:=by simpa using h
   go_enter Tryz.func260,Tryz.ntmps260
   go_wp2;go_ret;exact⟨rfl,rfl⟩
theorem abO(a:Int)(w:World):Calls Tryz.prog 342 #[.int .i32 a] w fun e w'=>e=.returned (.int .i32 (zu a))/\w=w':=by
 go_enter Tryz.func342,Tryz.ntmps342
 go_wp2;go_ret;exact⟨rfl,rfl⟩
theorem ae0(x:Int)(w:World):Calls Tryz.prog 312 #[.int .i64 x] w fun e w'=>e=.returned (.int .i32 (jZ x))/\w=w':=by
 go_enter Tryz.func312,Tryz.ntmps312
 go_wp2
 . go_ret
   exact⟨by rw [show jZ x=2147483647 by unfold jZ; split at h<;>omega]; rfl,rfl⟩
 . go_ret
   exact⟨by rw [show jZ x=-2147483648 by unfold jZ; omega]; rfl,rfl⟩
 . rename_i h1
   rw [if_neg (by omega)] at h1;go_ret;exact⟨by rw [show jZ x=x by unfold jZ; omega]; rfl,rfl⟩
def sum64(l:List Int):Int:=l.foldl (fun s x=>wrap64 (s+x)) 0
theorem abP{l:List Int}{k:Nat}(h:k<l.length):sum64 (l.take (k+1))=wrap64 (sum64 (l.take k)+l.getD k 0):=by
 rw [List.take_add_one,List.getElem?_eq_getElem h];unfold sum64;rw [List.foldl_append,List.getD_eq_getElem?_getD,List.getElem?_eq_getElem h];rfl
theorem amu(l:List Int)(k:Nat)(h:k<l.length):(l.map (Value.int .i64))[k]?=some (.int .i64 (l.getD k 0)):=by simp [h]
theorem Hr (A:Option Addr) (c:Nat) (l:List Int) (w:World) (hs:Sl w (.slice A l.length c) (l.map (Value.int .i64))) (hn:l.length<=3000) :
 Calls Tryz.prog 285 #[.slice A l.length c] w fun e w'=>e=.returned (.int .i32 (jZ (sum64 l)))/\w=w':=by
 have HS:=hide hs;clear hs;go_enter Tryz.func285,Tryz.ntmps285
 go_wp2;go_loopw [3,8] (fun n i wr=>∃ k:Nat,k<=l.length/\i=.int .i64 k/\n=.int .i64 (sum64 (l.take k))/\wr=w) (fun _ i _=>l.length - (intOf i).toNat)
 case atStart=>exact⟨0,Nat.zero_le _,rfl,rfl,rfl⟩
 case round =>
  obtain⟨k,hk,rfl,rfl,rfl⟩:=hrel;by_cases hlt:k<l.length
  . obtain⟨b,off,rfl,hca,_⟩:=HS.out.at_ (amu l k hlt)
    have HE:=hide (abP hlt);generalize l.getD k 0=x at *;generalize sum64 (l.take k)=n at *;go_wp2;go_roundw
    case rel=>exact⟨k+1,by omega,by go_num,by rw [HE.out],by trivial⟩
    case measure=>simp [intOf]; omega
  . have hk:k=l.length:=by omega
    subst hk;rw [List.take_length];go_wp2_with fail
    refine(ae0 _ _).mono ?_;rintro e w1 ⟨rfl,rfl⟩;go_wp2;go_ret;exact⟨rfl,rfl⟩
theorem ao4{a:Int}(h:-2147483648<=a/\a<=2147483647):wrap64 a=a:=by unfold wrap64; omega
theorem abQ (a b:Int) (w:World) (ha:-2147483648<=a/\a<=2147483647) (hb:-2147483648<=b/\b<=2147483647) :
 Calls Tryz.prog 252 #[.int .i32 a,.int .i32 b] w fun e w'=>e=.returned (.int .i32 (Ji a b))/\ah w w' []:=by
 have e:Ji a b=jZ (sum64 [a,b]):=by unfold Ji sum64; simp; rw [ao4 ha,show wrap64 (a+b)=a+b by unfold wrap64; omega]
 rw [e];go_enter Tryz.func252,Tryz.ntmps252
 go_wp2_with fail
 have hs:Sl (w.alloc (.cells #[.int .i64 a,.int .i64 b] 2)) (.slice (some ⟨w.heap.size,0,none⟩) 2 2) ([a,b].map (Value.int .i64)):=Sl.blk' (aC.new w _ _) rfl (Nat.le_refl _);refine(Hr _ _ [a,b] _ hs (by simp)).mono ?_;rintro e w1 ⟨rfl,rfl⟩;clear hs;go_wp2;go_ret;exact⟨rfl,(ah.refl w []).alloc _⟩
theorem abR (a b:Int) (w:World) (ha:-2147483648<=a/\a<=2147483647) (hb:-2147483648<=b/\b<=2147483647) :
 Calls Tryz.prog 253 #[.int .i32 a,.int .i32 b] w fun e w'=>e=.returned (.int .i32 (Jj a b))/\ah w w' []:=by
 have e:Jj a b=jZ (sum64 [a,-b]):=by unfold Jj sum64; simp; rw [ao4 ha,show wrap64 (a+-b)=a - b by unfold wrap64; omega]
 have hn:wrap64 (-b)=-b:=by unfold wrap64; omega
 rw [e];go_enter Tryz.func253,Tryz.ntmps253
 go_wp2_with fail
 have hs:Sl (w.alloc (.cells #[.int .i64 a,.int .i64 (-b)] 2)) (.slice (some ⟨w.heap.size,0,none⟩) 2 2) ([a,-b].map (Value.int .i64)):=Sl.blk' (aC.new w _ _) rfl (Nat.le_refl _);refine(Hr _ _ [a,-b] _ hs (by simp)).mono ?_;rintro e w1 ⟨rfl,rfl⟩;clear hs;go_wp2;go_ret;exact⟨rfl,(ah.refl w []).alloc _⟩
theorem NK (a:Int) (w:World) (ha:-2147483648<=a/\a<=2147483647) :
 Calls Tryz.prog 339 #[.int .i32 a] w fun e w'=>e=.returned (.int .i32 (yE a))/\ah w w' []:=by
 have e:yE a=jZ (sum64 [-a]):=by unfold yE sum64; simp; rw [show wrap64 (-a)=-a by unfold wrap64; omega]
 have hn:wrap64 (-a)=-a:=by unfold wrap64; omega
 rw [e];go_enter Tryz.func339,Tryz.ntmps339
 go_wp2_with fail
 have hs:Sl (w.alloc (.cells #[.int .i64 (-a)] 2)) (.slice (some ⟨w.heap.size,0,none⟩) 1 1) ([-a].map (Value.int .i64)):=Sl.blk' (aC.new w _ _) rfl (Nat.le_refl _);refine(Hr _ _ [-a] _ hs (by simp)).mono ?_;rintro e w1 ⟨rfl,rfl⟩;clear hs;go_wp2;go_ret;exact⟨rfl,(ah.refl w []).alloc _⟩
theorem wJ:(Tryz.prog.info? 21).map (fun i=>(i.zero,i.size,i.bytes))=some (some (.int .i32 0),1,4):=by kernel_rfl
theorem aiv:(Tryz.prog.info? 21).map (·.size)=some 1:=by kernel_rfl
theorem amO (A:Option Addr) (c:Nat) (ws:List Int) (w:World) (hn:ws.length<=3000) (hs:Sl w (.slice A ws.length c) (bG ws)) :
 Calls Tryz.prog 109 #[.slice A ws.length c] w fun e w'=>e=.returned (.slice (some ⟨w.heap.size,0,none⟩) ws.length ws.length) /\
  aC w' w.heap.size 21 (bG ws)/\ah w w' []:=by
 obtain⟨i0,hi0,hz0,hz1,hz2⟩:=info_parts wJ;have hmk:=run_make_row' (P:=Tryz.prog) 62 21 (.int .i32 0) 4 Tryz.underlying62 wJ rfl .i64 .i64 ws.length (by omega) (by omega);rw [lW] at hmk;have hs1:=fun o=>hs.aj (D:=[]) ((ah.refl w []).alloc o) (by simp);have hb1:=aC.new w 21 (zeros (.int .i32 0) ws.length);go_enter Tryz.func109,Tryz.ntmps109
 go_wp2_with (with_reducible refine MH rfl (.tmp 7) (.tmp 8) 62 62 rfl 21 Tryz.underlying62 aiv w.heap.size ws.length ws.length (.slice A ws.length c) (bG ws) _ 21 rfl rfl hb1 (hs1 _) (Uh _ _) (by simp) (ahq _) ?_; intro w1 hblk hchg);go_ret;exact⟨rfl,hblk,((ah.refl w []).alloc _).trans hchg (by simp)⟩
structure qg (w:World) (b r:Nat) (ws:List Int):Prop where
 n:ws.length<=2048
 head:aC w b 182 [.slice (some ⟨r,0,none⟩) ws.length ws.length,.bool true]
 row:aC w r 21 (bG ws)
theorem qg.ne {w:World} {b r:Nat} {ws:List Int} (h:qg w b r ws):b≠r:=h.head.ne_ h.row (by decide)
theorem qg.aj {w w':World} {b r:Nat} {ws:List Int} {D:List Nat} (h:qg w b r ws) (hc:ah w w' D) (hb:b∉D) (hr:r∉D):qg w' b r ws :=
 ⟨h.n,h.head.aj hc hb,h.row.aj hc hr⟩
theorem new_any (A:Option Addr) (c:Nat) (ws:List Int) (w:World) (hn:ws.length<=2048) (hs:Sl w (.slice A ws.length c) (bG ws)) :
 Calls Tryz.prog 60 #[.slice A ws.length c] w fun e w'=>∃ b r,e=.returned (.tuple #[.pointer (some ⟨b,0,none⟩),.int .i64 0]) /\
  qg w' b r ws/\w.heap.size<=b/\w.heap.size<=r/\ah w w' []:=by
 go_enter Tryz.func60,Tryz.ntmps60
 go_wp2_with (go_at_call 109; refine(amO A c ws _ (by omega) hs).mono ?_; rintro e w1 ⟨rfl,hblk,hchg⟩);go_ret2;have hsz:=hchg.size;have hne:=hblk.lt;exact⟨w1.heap.size,w.heap.size,rfl,⟨hn,aC.new w1 _ _,hblk.alloc _⟩,hsz,Nat.le_refl _,hchg.alloc _⟩
def ld(ws:List Int)(a:Int):Int:=if 0<=a/\a<ws.length then ws.getD a.toNat 0 else 0
def inB(ws:List Int)(a:Int):Bool:=decide (0<=a/\a<ws.length)
def st(ws:List Int)(a x:Int):List Int:=if 0<=a/\a<ws.length then ws.set a.toNat x else ws
theorem LH (b r:Nat) (ws:List Int) (a:Int) (w:World) (h:qg w b r ws) (ha0:-2147483648<=a) (ha1:a<=2147483647) :
 Calls Tryz.prog 70 #[.pointer (some ⟨b,0,none⟩),.int .i32 a] w fun e w'=>e=.returned (.tuple #[.int .i32 (ld ws a),.bool (inB ws a)])/\ah w w' []:=by
 have hb:=h.head.lt;have hr:=h.row.lt;have hn:=h.n;have hc0:=h.head.cell' (i:=0) rfl;have hc1:=fun i=>h.row.cell i;have hf:ah w (w.alloc (.cells #[.int .i32 0] 21)) []:=(ah.refl w []).alloc _;by_cases h0:a<0
 . have e1:ld ws a=0:=by unfold ld; rw [if_neg (by omega)]
   have e2:inB ws a=false:=by unfold inB; simp; omega
   rw [e1,e2];clear hc1 hn;go_enter Tryz.func70,Tryz.ntmps70
   go_wp2;go_ret2;exact⟨rfl,hf⟩
 . by_cases h1:a<ws.length
   . obtain⟨i,rfl⟩:=Int.eq_ofNat_of_zero_le (show 0<=a by omega)
     have e1:ld ws i=ws.getD i 0:=by unfold ld; rw [if_pos (by omega)]; simp
     have e2:inB ws i=true:=by unfold inB; simp; omega
     rw [e1,e2];have hi:i<ws.length:=by omega
     have hci:w.cell? ⟨r,i,none⟩=some (.int .i32 (ws.getD i 0)):=by rw [hc1]; exact Pj _ _ hi
     generalize ws.getD i 0=x at *;have hf:ah w (w.alloc (.cells #[.int .i32 x] 21)) []:=(ah.refl w []).alloc _;clear hc1 h1;go_enter Tryz.func70,Tryz.ntmps70
     go_wp2;go_end0;go_wp2;go_ret2;exact⟨rfl,hf⟩
   . have e1:ld ws a=0:=by unfold ld; rw [if_neg (by omega)]
     have e2:inB ws a=false:=by unfold inB; simp; omega
     rw [e1,e2];clear hc1;go_enter Tryz.func70,Tryz.ntmps70
     go_wp2;go_ret2;exact⟨rfl,hf⟩
theorem Rq (b r:Nat) (ws:List Int) (a x:Int) (w:World) (h:qg w b r ws) (ha0:-2147483648<=a) (ha1:a<=2147483647) :
 Calls Tryz.prog 68 #[.pointer (some ⟨b,0,none⟩),.int .i32 a,.int .i32 x] w fun e w'=>e=.returned (.bool (inB ws a))/\qg w' b r (st ws a x)/\ah w w' [r]:=by
 have hb:=h.head.lt;have hr:=h.row.lt;have hn:=h.n;have hc0:=h.head.cell' (i:=0) rfl;have hc1:=fun i=>h.row.cell i;have hfr:=fun i=>h.row.frozen i;have hf:ah w (w.alloc (.cells #[.int .i32 x] 21)) [r]:=(ah.refl w [r]).alloc _;have hne:=h.ne;have Vz:∀ y:Value,qg (w.alloc (.cells #[y] 21)) b r ws:=fun y=>⟨h.n,h.head.alloc _,h.row.alloc _⟩;by_cases h0:a<0
 . have e1:st ws a x=ws:=by unfold st; rw [if_neg (by omega)]
   have e2:inB ws a=false:=by unfold inB; simp; omega
   rw [e1,e2];clear hc1 hn hfr;go_enter Tryz.func68,Tryz.ntmps68
   go_wp2;go_ret;exact⟨rfl,Vz _,hf⟩
 . by_cases h1:a<ws.length
   . obtain⟨i,rfl⟩:=Int.eq_ofNat_of_zero_le (show 0<=a by omega)
     have e1:st ws i x=ws.set i x:=by unfold st; rw [if_pos (by omega)]; simp
     have e2:inB ws i=true:=by unfold inB; simp; omega
     have hi:i<ws.length:=by omega
     have hci:w.cell? ⟨r,i,none⟩=some (.int .i32 (ws.getD i 0)):=by rw [hc1]; exact Pj _ _ hi
     have hfi:=hfr i
     have hfin:qg ((w.setCell ⟨r,i,none⟩ (.int .i32 x)).alloc (.cells #[.int .i32 x] 21)) b r (ws.set i x):=by
      refine⟨by simpa using h.n,?_,?_⟩
      . simpa using (h.head.far (p:=⟨r,i,none⟩) hne _).alloc _
      . have:=(h.row.aK i (.int .i32 x)).alloc (.cells #[.int .i32 x] 21)
        rw [Ug]; exact this
     have hf:ah w ((w.setCell ⟨r,i,none⟩ (.int .i32 x)).alloc (.cells #[.int .i32 x] 21)) [r]:=((ah.refl w [r]).setCell _ _ (by simp)).alloc _;rw [e1,e2];generalize ws.getD i 0=x0 at *;clear hc1 h1 hfr;go_enter Tryz.func68,Tryz.ntmps68
     go_wp2;go_end0;go_wp2;go_ret;exact⟨rfl,hfin,hf⟩
   . have e1:st ws a x=ws:=by unfold st; rw [if_neg (by omega)]
     have e2:inB ws a=false:=by unfold inB; simp; omega
     rw [e1,e2];clear hc1 hfr;go_enter Tryz.func68,Tryz.ntmps68
     go_wp2;go_ret;exact⟨rfl,Vz _,hf⟩
def Fz (n op:Int) (a b c d:UInt8):Nat->List Value
 | 0=>kV op 0 0 0 0
 | 1=>kV op (dx n a) 0 0 0
 | 2=>kV op (dx n a) (dy n b) 0 0
 | 3=>kV op (dx n a) (dy n b) (dz n c) 0
 | _=>kV op (dx n a) (dy n b) (dz n c) (du n d)
theorem Ii(n op:Int)(a b c d:UInt8)(V:Int)(h:V=dx n a):(Fz n op a b c d 0).set 1 (.int .i64 V)=Fz n op a b c d 1:=by rw [h]; rfl
theorem Ij(n op:Int)(a b c d:UInt8)(V:Int)(h:V=dy n b):(Fz n op a b c d 1).set 2 (.int .i64 V)=Fz n op a b c d 2:=by rw [h]; rfl
theorem Ik(n op:Int)(a b c d:UInt8)(V:Int)(h:V=dz n c):(Fz n op a b c d 2).set 3 (.int .i64 V)=Fz n op a b c d 3:=by rw [h]; rfl
theorem Il(n op:Int)(a b c d:UInt8)(V:Int)(h:V=du n d):(Fz n op a b c d 3).set 4 (.int .i64 V)=Fz n op a b c d 4:=by rw [h]; rfl
def afX (w:World) (n op:Int) (a b c d:UInt8) (rb ib q:Nat) (v:Value) (wr:World):Prop :=
 ∃ k:Nat,k<=4/\v=.int .i64 (k:Int)/\aC wr ib 126 (Fz n op a b c d k)/\aC wr q 189 qH/\aC wr rb 126 (kV 0 0 0 0 0)/\ah w wr []
theorem YZ(n:Int)(w:World)(hn0:0<=n)(hn1:n<=4294967295)(h:jQ (n / 67108864)=[]) :
 Calls Tryz.prog 61 #[.int .u32 n] w fun e w'=>e=.returned (.tuple #[kK 0 0 0 0 0,.int .i64 2])/\ah w w' []:=by
 have H:=hide h;clear h;go_enter Tryz.func61,Tryz.ntmps61
 go_wp2_with (go_at_call 110; refine(qG _ _).mono ?_; rintro e w2 ⟨rfl,rfl⟩; rw [H.out]);exact bodyPost_ret (v:=.tuple #[kK 0 0 0 0 0,.int .i64 2]) (by simp [results,Tryz.results61,go_sem]) rfl ⟨rfl,((ah.refl _ _).alloc _).alloc _⟩
def D9 (n:Int) (a b c d:UInt8):Value :=
 if pK (n / 67108864) (dx n a) (dy n b) (dz n c) (du n d) 4=n then .tuple #[kK (n / 67108864) (dx n a) (dy n b) (dz n c) (du n d),.int .i64 0] else .tuple #[kK 0 0 0 0 0,.int .i64 3]
set_option maxRecDepth 100000 in
theorem Y0(n:Int)(a b c d:UInt8)(w:World)(hn0:0<=n)(hn1:n<=4294967295)(h:jQ (n / 67108864)=[a,b,c,d]) :
 Calls Tryz.prog 61 #[.int .u32 n] w fun e w'=>e=.returned (D9 n a b c d)/\ah w w' []:=by
 go_enter Tryz.func61,Tryz.ntmps61
 go_wp2_with fail
 refine(qG _ _).mono ?_;rintro e w2 ⟨rfl,rfl⟩;rw [h];have HCH:=hide (amc hn0 h);clear h;go_wp2_with fail
 refine(EI a b c d _).mono ?_;rintro e w2 ⟨rfl,rfl⟩
 have hstart:afX w n (n / 67108864) a b c d w.heap.size (w.heap.size+1) (w.heap.size+2) (.int .i64 (0:Nat)) (((w.alloc (.cells (kV 0 0 0 0 0).toArray 126)).alloc (.cells (kV (n / 67108864) 0 0 0 0).toArray 126)).alloc (.cells qH.toArray 189)):=by
  have b0:=aC.new w 126 (kV 0 0 0 0 0);have b1:=aC.new (w.alloc (.cells (kV 0 0 0 0 0).toArray 126)) 126 (kV (n / 67108864) 0 0 0 0);have b2:=aC.new ((w.alloc (.cells (kV 0 0 0 0 0).toArray 126)).alloc (.cells (kV (n / 67108864) 0 0 0 0).toArray 126)) 189 qH;rw [size_alloc] at b1 b2;rw [size_alloc] at b2;exact⟨0,by omega,rfl,b1.alloc _,b2,(b0.alloc _).alloc _,(((ah.refl _ _).alloc _).alloc _).alloc _⟩
 go_wp2_with fail
 have hsz:w.heap.size+1+1=w.heap.size+2:=rfl;generalize hwl:((w.alloc (.cells (kV 0 0 0 0 0).toArray 126)).alloc (.cells (kV (n / 67108864) 0 0 0 0).toArray 126)).alloc (.cells qH.toArray 189)=wl at *;clear hwl;go_loopw [24] (fun v wr=>afX w n (n / 67108864) a b c d w.heap.size (w.heap.size+1) (w.heap.size+2) v wr) (fun i _=>4 - (intOf i).toNat)
 case atStart=>exact hstart
 case round =>
  clear hstart;obtain⟨k,hk,rfl,hbi,hbq,hbr,hc⟩:=hrel;have kk:k=0\/k=1\/k=2\/k=3\/k=4:=by omega
  have aoK:=hbi.lt;have aoL:=hbq.lt;have ay6:=hbr.lt;have xJ:=hide hbi;have xK:=hide hbq;have Cc:=hide hbr;have HC:=hide hc;clear hc
  have key:∀ l m:UInt8,l≠m->((l.toNat:Int)==(m.toNat:Int))=false:=fun l m h=>by
   rw [beq_eq_false_iff_ne]; intro h2; exact h (by rw [<- UInt8.toNat_inj]; omega)
  have HK:=hide key;clear key;rcases kk with rfl | rfl | rfl | rfl | rfl
  . have q0:=hbq.cell' (i:=0) rfl
    have q1:=hbq.cell' (i:=1) rfl;have q2:=hbq.cell' (i:=2) rfl;have c4:=hbi.cell' (i:=1) rfl;have f4:=hbi.frozen 1;clear hbi hbq hbr;by_cases h1:a=45
    . subst h1
      go_wp2_with (first | (go_at_call 175; refine(Ld _ _).mono ?_; rintro e w2 ⟨rfl,rfl⟩))
      . refine⟨⟨1,by omega,rfl,?_,(xK.out.far (p:=⟨w.heap.size+1,1,none⟩) (by show w.heap.size+2≠w.heap.size+1; omega) _).alloc _,(Cc.out.far (p:=⟨w.heap.size+1,1,none⟩) (by show w.heap.size≠w.heap.size+1; omega) _).alloc _,(HC.out.setCell ⟨w.heap.size+1,1,none⟩ _ (.inr (by show w.heap.size<=w.heap.size+1; omega))).alloc _⟩,by simp [intOf]⟩
        have hset:=(xJ.out.aK 1 (.int .i64 (0))).alloc (.cells #[.func (.func 175) #[] #[],.int .u64 21,.int .u64 5] 189);rw [Ii _ _ _ _ _ _ _ (by rfl)] at hset;exact hset
    . have k1:((((⟨#[a,b,c,d]⟩:ByteArray)[0]'(by show 0<4; omega)).toNat:Int)==45)=false:=HK.out a 45 h1
      have H1:=hide h1;clear h1;by_cases h2:a=115
      . subst h2
        go_wp2_with (first | (go_at_call 175; refine(Ld _ _).mono ?_; rintro e w2 ⟨rfl,rfl⟩));refine⟨⟨1,by omega,rfl,?_,(xK.out.far (p:=⟨w.heap.size+1,1,none⟩) (by show w.heap.size+2≠w.heap.size+1; omega) _).alloc _,(Cc.out.far (p:=⟨w.heap.size+1,1,none⟩) (by show w.heap.size≠w.heap.size+1; omega) _).alloc _,(HC.out.setCell ⟨w.heap.size+1,1,none⟩ _ (.inr (by show w.heap.size<=w.heap.size+1; omega))).alloc _⟩,by simp [intOf]⟩;have hset:=(xJ.out.aK 1 (.int .i64 (wrap64 (IntKind.i16.wrap (wrap64 (bits .and .u32 (n / 2097152) 31)))))).alloc (.cells #[.func (.func 175) #[] #[],.int .u64 21,.int .u64 5] 189);rw [Ii _ _ _ _ _ _ _ (by rw [Jd _ (by omega) (by omega),abl]; unfold dx fx; rw [if_neg (by decide),if_pos rfl])] at hset;exact hset
      . have k2:((((⟨#[a,b,c,d]⟩:ByteArray)[0]'(by show 0<4; omega)).toNat:Int)==115)=false:=HK.out a 115 h2
        have H2:=hide h2;clear h2;go_wp2_with (first | (go_at_call 175; refine(Ld _ _).mono ?_; rintro e w2 ⟨rfl,rfl⟩));refine⟨⟨1,by omega,rfl,?_,(xK.out.far (p:=⟨w.heap.size+1,1,none⟩) (by show w.heap.size+2≠w.heap.size+1; omega) _).alloc _,(Cc.out.far (p:=⟨w.heap.size+1,1,none⟩) (by show w.heap.size≠w.heap.size+1; omega) _).alloc _,(HC.out.setCell ⟨w.heap.size+1,1,none⟩ _ (.inr (by show w.heap.size<=w.heap.size+1; omega))).alloc _⟩,by simp [intOf]⟩;have hset:=(xJ.out.aK 1 (.int .i64 (wrap64 (bits .and .u32 (n / 2097152) 31)))).alloc (.cells #[.func (.func 175) #[] #[],.int .u64 21,.int .u64 5] 189);rw [Ii _ _ _ _ _ _ _ (by rw [Jd _ (by omega) (by omega)]; unfold dx fx; rw [if_neg H1.out,if_neg H2.out])] at hset;exact hset
  . have q0:=hbq.cell' (i:=3) rfl
    have q1:=hbq.cell' (i:=4) rfl;have q2:=hbq.cell' (i:=5) rfl;have c4:=hbi.cell' (i:=2) rfl;have f4:=hbi.frozen 2;clear hbi hbq hbr;by_cases h1:b=45
    . subst h1
      go_wp2_with (first | (go_at_call 176; refine(Le _ _).mono ?_; rintro e w2 ⟨rfl,rfl⟩))
      . refine⟨⟨2,by omega,rfl,?_,(xK.out.far (p:=⟨w.heap.size+1,2,none⟩) (by show w.heap.size+2≠w.heap.size+1; omega) _).alloc _,(Cc.out.far (p:=⟨w.heap.size+1,2,none⟩) (by show w.heap.size≠w.heap.size+1; omega) _).alloc _,(HC.out.setCell ⟨w.heap.size+1,2,none⟩ _ (.inr (by show w.heap.size<=w.heap.size+1; omega))).alloc _⟩,by simp [intOf]⟩
        have hset:=(xJ.out.aK 2 (.int .i64 (0))).alloc (.cells #[.func (.func 176) #[] #[],.int .u64 16,.int .u64 5] 189);rw [Ij _ _ _ _ _ _ _ (by rfl)] at hset;exact hset
    . have k1:((((⟨#[a,b,c,d]⟩:ByteArray)[1]'(by show 1<4; omega)).toNat:Int)==45)=false:=HK.out b 45 h1
      have H1:=hide h1;clear h1;by_cases h2:b=115
      . subst h2
        go_wp2_with (first | (go_at_call 176; refine(Le _ _).mono ?_; rintro e w2 ⟨rfl,rfl⟩));refine⟨⟨2,by omega,rfl,?_,(xK.out.far (p:=⟨w.heap.size+1,2,none⟩) (by show w.heap.size+2≠w.heap.size+1; omega) _).alloc _,(Cc.out.far (p:=⟨w.heap.size+1,2,none⟩) (by show w.heap.size≠w.heap.size+1; omega) _).alloc _,(HC.out.setCell ⟨w.heap.size+1,2,none⟩ _ (.inr (by show w.heap.size<=w.heap.size+1; omega))).alloc _⟩,by simp [intOf]⟩;have hset:=(xJ.out.aK 2 (.int .i64 (wrap64 (IntKind.i16.wrap (wrap64 (bits .and .u32 (n / 65536) 31)))))).alloc (.cells #[.func (.func 176) #[] #[],.int .u64 16,.int .u64 5] 189);rw [Ij _ _ _ _ _ _ _ (by rw [Jd _ (by omega) (by omega),abl]; unfold dy fx; rw [if_neg (by decide),if_pos rfl])] at hset;exact hset
      . have k2:((((⟨#[a,b,c,d]⟩:ByteArray)[1]'(by show 1<4; omega)).toNat:Int)==115)=false:=HK.out b 115 h2
        have H2:=hide h2;clear h2;go_wp2_with (first | (go_at_call 176; refine(Le _ _).mono ?_; rintro e w2 ⟨rfl,rfl⟩));refine⟨⟨2,by omega,rfl,?_,(xK.out.far (p:=⟨w.heap.size+1,2,none⟩) (by show w.heap.size+2≠w.heap.size+1; omega) _).alloc _,(Cc.out.far (p:=⟨w.heap.size+1,2,none⟩) (by show w.heap.size≠w.heap.size+1; omega) _).alloc _,(HC.out.setCell ⟨w.heap.size+1,2,none⟩ _ (.inr (by show w.heap.size<=w.heap.size+1; omega))).alloc _⟩,by simp [intOf]⟩;have hset:=(xJ.out.aK 2 (.int .i64 (wrap64 (bits .and .u32 (n / 65536) 31)))).alloc (.cells #[.func (.func 176) #[] #[],.int .u64 16,.int .u64 5] 189);rw [Ij _ _ _ _ _ _ _ (by rw [Jd _ (by omega) (by omega)]; unfold dy fx; rw [if_neg H1.out,if_neg H2.out])] at hset;exact hset
  . have q0:=hbq.cell' (i:=6) rfl
    have q1:=hbq.cell' (i:=7) rfl;have q2:=hbq.cell' (i:=8) rfl;have c4:=hbi.cell' (i:=3) rfl;have f4:=hbi.frozen 3;clear hbi hbq hbr;by_cases h1:c=45
    . subst h1
      go_wp2_with (first | (go_at_call 177; refine(Lh _ _).mono ?_; rintro e w2 ⟨rfl,rfl⟩))
      . refine⟨⟨3,by omega,rfl,?_,(xK.out.far (p:=⟨w.heap.size+1,3,none⟩) (by show w.heap.size+2≠w.heap.size+1; omega) _).alloc _,(Cc.out.far (p:=⟨w.heap.size+1,3,none⟩) (by show w.heap.size≠w.heap.size+1; omega) _).alloc _,(HC.out.setCell ⟨w.heap.size+1,3,none⟩ _ (.inr (by show w.heap.size<=w.heap.size+1; omega))).alloc _⟩,by simp [intOf]⟩
        have hset:=(xJ.out.aK 3 (.int .i64 (0))).alloc (.cells #[.func (.func 177) #[] #[],.int .u64 11,.int .u64 5] 189);rw [Ik _ _ _ _ _ _ _ (by rfl)] at hset;exact hset
    . have k1:((((⟨#[a,b,c,d]⟩:ByteArray)[2]'(by show 2<4; omega)).toNat:Int)==45)=false:=HK.out c 45 h1
      have H1:=hide h1;clear h1;by_cases h2:c=115
      . subst h2
        go_wp2_with (first | (go_at_call 177; refine(Lh _ _).mono ?_; rintro e w2 ⟨rfl,rfl⟩));refine⟨⟨3,by omega,rfl,?_,(xK.out.far (p:=⟨w.heap.size+1,3,none⟩) (by show w.heap.size+2≠w.heap.size+1; omega) _).alloc _,(Cc.out.far (p:=⟨w.heap.size+1,3,none⟩) (by show w.heap.size≠w.heap.size+1; omega) _).alloc _,(HC.out.setCell ⟨w.heap.size+1,3,none⟩ _ (.inr (by show w.heap.size<=w.heap.size+1; omega))).alloc _⟩,by simp [intOf]⟩;have hset:=(xJ.out.aK 3 (.int .i64 (wrap64 (IntKind.i16.wrap (wrap64 (bits .and .u32 (n / 2048) 31)))))).alloc (.cells #[.func (.func 177) #[] #[],.int .u64 11,.int .u64 5] 189);rw [Ik _ _ _ _ _ _ _ (by rw [Jd _ (by omega) (by omega),abl]; unfold dz fx; rw [if_neg (by decide),if_pos rfl])] at hset;exact hset
      . have k2:((((⟨#[a,b,c,d]⟩:ByteArray)[2]'(by show 2<4; omega)).toNat:Int)==115)=false:=HK.out c 115 h2
        have H2:=hide h2;clear h2;go_wp2_with (first | (go_at_call 177; refine(Lh _ _).mono ?_; rintro e w2 ⟨rfl,rfl⟩));refine⟨⟨3,by omega,rfl,?_,(xK.out.far (p:=⟨w.heap.size+1,3,none⟩) (by show w.heap.size+2≠w.heap.size+1; omega) _).alloc _,(Cc.out.far (p:=⟨w.heap.size+1,3,none⟩) (by show w.heap.size≠w.heap.size+1; omega) _).alloc _,(HC.out.setCell ⟨w.heap.size+1,3,none⟩ _ (.inr (by show w.heap.size<=w.heap.size+1; omega))).alloc _⟩,by simp [intOf]⟩;have hset:=(xJ.out.aK 3 (.int .i64 (wrap64 (bits .and .u32 (n / 2048) 31)))).alloc (.cells #[.func (.func 177) #[] #[],.int .u64 11,.int .u64 5] 189);rw [Ik _ _ _ _ _ _ _ (by rw [Jd _ (by omega) (by omega)]; unfold dz fx; rw [if_neg H1.out,if_neg H2.out])] at hset;exact hset
  . have q0:=hbq.cell' (i:=9) rfl
    have q1:=hbq.cell' (i:=10) rfl;have q2:=hbq.cell' (i:=11) rfl;have c4:=hbi.cell' (i:=4) rfl;have f4:=hbi.frozen 4;clear hbi hbq hbr;by_cases h1:d=45
    . subst h1
      go_wp2_with (first | (go_at_call 178; refine(Lj _ _).mono ?_; rintro e w2 ⟨rfl,rfl⟩))
      . refine⟨⟨4,by omega,rfl,?_,(xK.out.far (p:=⟨w.heap.size+1,4,none⟩) (by show w.heap.size+2≠w.heap.size+1; omega) _).alloc _,(Cc.out.far (p:=⟨w.heap.size+1,4,none⟩) (by show w.heap.size≠w.heap.size+1; omega) _).alloc _,(HC.out.setCell ⟨w.heap.size+1,4,none⟩ _ (.inr (by show w.heap.size<=w.heap.size+1; omega))).alloc _⟩,by simp [intOf]⟩
        have hset:=(xJ.out.aK 4 (.int .i64 (0))).alloc (.cells #[.func (.func 178) #[] #[],.int .u64 0,.int .u64 16] 189);rw [Il _ _ _ _ _ _ _ (by rfl)] at hset;exact hset
    . have k1:((((⟨#[a,b,c,d]⟩:ByteArray)[3]'(by show 3<4; omega)).toNat:Int)==45)=false:=HK.out d 45 h1
      have H1:=hide h1;clear h1;by_cases h2:d=115
      . subst h2
        go_wp2_with (first | (go_at_call 178; refine(Lj _ _).mono ?_; rintro e w2 ⟨rfl,rfl⟩));refine⟨⟨4,by omega,rfl,?_,(xK.out.far (p:=⟨w.heap.size+1,4,none⟩) (by show w.heap.size+2≠w.heap.size+1; omega) _).alloc _,(Cc.out.far (p:=⟨w.heap.size+1,4,none⟩) (by show w.heap.size≠w.heap.size+1; omega) _).alloc _,(HC.out.setCell ⟨w.heap.size+1,4,none⟩ _ (.inr (by show w.heap.size<=w.heap.size+1; omega))).alloc _⟩,by simp [intOf]⟩;have hset:=(xJ.out.aK 4 (.int .i64 (wrap64 (IntKind.i16.wrap (wrap64 (bits .and .u32 (n) 65535)))))).alloc (.cells #[.func (.func 178) #[] #[],.int .u64 0,.int .u64 16] 189);rw [Il _ _ _ _ _ _ _ (by rw [UY _ (by omega) (by omega),abl]; unfold du fx; rw [if_neg (by decide),if_pos rfl])] at hset;exact hset
      . have k2:((((⟨#[a,b,c,d]⟩:ByteArray)[3]'(by show 3<4; omega)).toNat:Int)==115)=false:=HK.out d 115 h2
        have H2:=hide h2;clear h2;go_wp2_with (first | (go_at_call 178; refine(Lj _ _).mono ?_; rintro e w2 ⟨rfl,rfl⟩));refine⟨⟨4,by omega,rfl,?_,(xK.out.far (p:=⟨w.heap.size+1,4,none⟩) (by show w.heap.size+2≠w.heap.size+1; omega) _).alloc _,(Cc.out.far (p:=⟨w.heap.size+1,4,none⟩) (by show w.heap.size≠w.heap.size+1; omega) _).alloc _,(HC.out.setCell ⟨w.heap.size+1,4,none⟩ _ (.inr (by show w.heap.size<=w.heap.size+1; omega))).alloc _⟩,by simp [intOf]⟩;have hset:=(xJ.out.aK 4 (.int .i64 (wrap64 (bits .and .u32 (n) 65535)))).alloc (.cells #[.func (.func 178) #[] #[],.int .u64 0,.int .u64 16] 189);rw [Il _ _ _ _ _ _ _ (by rw [UY _ (by omega) (by omega)]; unfold du fx; rw [if_neg H1.out,if_neg H2.out])] at hset;exact hset
  . have c0:=hbi.cell' (i:=0) rfl
    have c1:=hbi.cell' (i:=1) rfl;have c2:=hbi.cell' (i:=2) rfl;have c3:=hbi.cell' (i:=3) rfl;have c4:=hbi.cell' (i:=4) rfl;have r0:=hbr.cell' (i:=0) rfl;have r1:=hbr.cell' (i:=1) rfl;have r2:=hbr.cell' (i:=2) rfl;have r3:=hbr.cell' (i:=3) rfl;have r4:=hbr.cell' (i:=4) rfl;clear hbi hbq hbr HK;have hge:=HC.out.size;clear r0 r1 r2 r3 r4;by_cases heq:pK (n / 67108864) (dx n a) (dy n b) (dz n c) (du n d) 4=n
    . have HO:=hide (show D9 n a b c d=_ from if_pos heq)
      have HE:=hide heq;clear heq;generalize dx n a=X at *;generalize dy n b=Y at *;generalize dz n c=Z at *;generalize du n d=U at *;have hnn:(n != n)=false:=by simp
      go_wp2_with fail
      refine(C_ _ X Y Z U _ HCH.out).mono ?_;rintro e w5 ⟨rfl,hc5⟩;rw [HE.out];replace c0:=hc5.cell c0 (by simp);replace c1:=hc5.cell c1 (by simp);replace c2:=hc5.cell c2 (by simp);replace c3:=hc5.cell c3 (by simp);replace c4:=hc5.cell c4 (by simp);have jS:=hide (Cc.out.aj hc5 (by simp));have r0:=jS.out.cell' (i:=0) rfl;have r1:=jS.out.cell' (i:=1) rfl;have r2:=jS.out.cell' (i:=2) rfl;have r3:=jS.out.cell' (i:=3) rfl;have r4:=jS.out.cell' (i:=4) rfl;have f0:=jS.out.frozen 0;have f1:=jS.out.frozen 1;have f2:=jS.out.frozen 2;have f3:=jS.out.frozen 3;have f4:=jS.out.frozen 4;have hl5:=jS.out.lt;replace HC:=hide (HC.out.trans hc5 (by simp));go_wp2;refine bodyPost_ret (v:=.tuple #[kK (n / 67108864) X Y Z U,.int .i64 0]) (by simp [results,Tryz.results61,go_sem,r0,r1,r2,r3,r4]) rfl ⟨by rw [HO.out],?_⟩;exact((((HC.out.setCell _ _ (.inr (Nat.le_refl _))).setCell _ _ (.inr (Nat.le_refl _))).setCell _ _ (.inr (Nat.le_refl _))).setCell _ _ (.inr (Nat.le_refl _))).setCell _ _ (.inr (Nat.le_refl _))
    . have HO:=hide (show D9 n a b c d=_ from if_neg heq)
      have HE:=hide heq;clear heq;generalize dx n a=X at *;generalize dy n b=Y at *;generalize dz n c=Z at *;generalize du n d=U at *;have hnn:(pK (n / 67108864) X Y Z U 4 != n)=true:=by rw [bne_iff_ne]; exact HE.out
      go_wp2_with fail
      refine(C_ _ X Y Z U _ HCH.out).mono ?_;rintro e w5 ⟨rfl,hc5⟩;generalize pK (n / 67108864) X Y Z U 4=E at *;replace c0:=hc5.cell c0 (by simp);replace c1:=hc5.cell c1 (by simp);replace c2:=hc5.cell c2 (by simp);replace c3:=hc5.cell c3 (by simp);replace c4:=hc5.cell c4 (by simp);have jS:=hide (Cc.out.aj hc5 (by simp));have r0:=jS.out.cell' (i:=0) rfl;have r1:=jS.out.cell' (i:=1) rfl;have r2:=jS.out.cell' (i:=2) rfl;have r3:=jS.out.cell' (i:=3) rfl;have r4:=jS.out.cell' (i:=4) rfl;have f0:=jS.out.frozen 0;have f1:=jS.out.frozen 1;have f2:=jS.out.frozen 2;have f3:=jS.out.frozen 3;have f4:=jS.out.frozen 4;have hl5:=jS.out.lt;replace HC:=hide (HC.out.trans hc5 (by simp));go_wp2;refine bodyPost_ret (v:=.tuple #[kK 0 0 0 0 0,.int .i64 3]) (by simp [results,Tryz.results61,go_sem,r0,r1,r2,r3,r4]) rfl ⟨by rw [HO.out],?_⟩;exact((((HC.out.setCell _ _ (.inr (Nat.le_refl _))).setCell _ _ (.inr (Nat.le_refl _))).setCell _ _ (.inr (Nat.le_refl _))).setCell _ _ (.inr (Nat.le_refl _))).setCell _ _ (.inr (Nat.le_refl _))
theorem Y1{n:Int}{a b c d:UInt8}{x y z u:Int}(h1:dx n a=x)(h2:dy n b=y)(h3:dz n c=z)(h4:du n d=u)(h:pK (n / 67108864) x y z u 4=n):D9 n a b c d=.tuple #[kK (n / 67108864) x y z u,.int .i64 0]:=by
 unfold D9; rw [h1,h2,h3,h4,if_pos h]
def D_ (n:Int):Value:=match jQ (n / 67108864) with
 | [a,b,c,d]=>D9 n a b c d
 | _=>.tuple #[kK 0 0 0 0 0,.int .i64 2]
theorem decode_any (n:Int) (w:World) (hn0:0<=n) (hn1:n<=4294967295) :
 Calls Tryz.prog 61 #[.int .u32 n] w fun e w'=>e=.returned (D_ n)/\ah w w' []:=by
 unfold D_;rcases UU (n / 67108864) with h | ⟨a,b,c,d,h⟩
 . rw [h]; exact YZ n w hn0 hn1 h
 . rw [h]; exact Y0 n a b c d w hn0 hn1 h
theorem oC{n op:Int}{a b c d:UInt8}{x y z u:Int}(ho:n / 67108864=op)(h:jQ op=[a,b,c,d])(h1:dx n a=x)(h2:dy n b=y)(h3:dz n c=z)(h4:du n d=u)(he:pK op x y z u 4=n) :
 D_ n=.tuple #[kK op x y z u,.int .i64 0]:=by
 subst ho;unfold D_;rw [h];exact Y1 h1 h2 h3 h4 he
theorem ang(op x y z u:Int)(h:Fits op x y z u):D_ (pK op x y z u 4)=.tuple #[kK op x y z u,.int .i64 0]:=by
 have hb:=CZ h;have hE:pK op x y z u 4=op*67108864+x*2097152+y*65536+z*2048+u%65536:=rfl;generalize hn:pK op x y z u 4=n at *;have hop:n / 67108864=op:=by omega
 unfold Fits jy at h;rcases h with h | h | h | h | h | h | h | h
 . have hs : jQ op=[100, 97, 98, 45] := by
    rcases fU op with⟨g,e⟩ | ⟨g,e⟩ | ⟨g,e⟩ | ⟨g,e⟩ | ⟨g,e⟩ | ⟨g,e⟩ | ⟨g,e⟩ | ⟨g,e⟩ | ⟨g,e⟩ | ⟨g,e⟩<;>first | (rw [e]; done) | (exfalso; omega)
   exact oC hop hs (by show fx 100 _=_; unfold fx; rw [if_neg (by decide),if_neg (by decide)]; omega) (by show fx 97 _=_; unfold fx; rw [if_neg (by decide),if_neg (by decide)]; omega) (by show fx 98 _=_; unfold fx; rw [if_neg (by decide),if_neg (by decide)]; omega) (by show fx 45 _=_; unfold fx; rw [if_pos rfl]; omega) hn
 . have hs : jQ op=[100, 97, 45, 45] := by
    rcases fU op with⟨g,e⟩ | ⟨g,e⟩ | ⟨g,e⟩ | ⟨g,e⟩ | ⟨g,e⟩ | ⟨g,e⟩ | ⟨g,e⟩ | ⟨g,e⟩ | ⟨g,e⟩ | ⟨g,e⟩<;>first | (rw [e]; done) | (exfalso; omega)
   exact oC hop hs (by show fx 100 _=_; unfold fx; rw [if_neg (by decide),if_neg (by decide)]; omega) (by show fx 97 _=_; unfold fx; rw [if_neg (by decide),if_neg (by decide)]; omega) (by show fx 45 _=_; unfold fx; rw [if_pos rfl]; omega) (by show fx 45 _=_; unfold fx; rw [if_pos rfl]; omega) hn
 . have hs : jQ op=[100, 97, 45, 115] := by
    rcases fU op with⟨g,e⟩ | ⟨g,e⟩ | ⟨g,e⟩ | ⟨g,e⟩ | ⟨g,e⟩ | ⟨g,e⟩ | ⟨g,e⟩ | ⟨g,e⟩ | ⟨g,e⟩ | ⟨g,e⟩<;>first | (rw [e]; done) | (exfalso; omega)
   exact oC hop hs (by show fx 100 _=_; unfold fx; rw [if_neg (by decide),if_neg (by decide)]; omega) (by show fx 97 _=_; unfold fx; rw [if_neg (by decide),if_neg (by decide)]; omega) (by show fx 45 _=_; unfold fx; rw [if_pos rfl]; omega) (by show fx 115 _=_; unfold fx; rw [if_neg (by decide),if_pos rfl,Ll]; omega) hn
 . have hs : jQ op=[100, 45, 45, 117] := by
    rcases fU op with⟨g,e⟩ | ⟨g,e⟩ | ⟨g,e⟩ | ⟨g,e⟩ | ⟨g,e⟩ | ⟨g,e⟩ | ⟨g,e⟩ | ⟨g,e⟩ | ⟨g,e⟩ | ⟨g,e⟩<;>first | (rw [e]; done) | (exfalso; omega)
   exact oC hop hs (by show fx 100 _=_; unfold fx; rw [if_neg (by decide),if_neg (by decide)]; omega) (by show fx 45 _=_; unfold fx; rw [if_pos rfl]; omega) (by show fx 45 _=_; unfold fx; rw [if_pos rfl]; omega) (by show fx 117 _=_; unfold fx; rw [if_neg (by decide),if_neg (by decide)]; omega) hn
 . have hs : jQ op=[100, 97, 45, 117] := by
    rcases fU op with⟨g,e⟩ | ⟨g,e⟩ | ⟨g,e⟩ | ⟨g,e⟩ | ⟨g,e⟩ | ⟨g,e⟩ | ⟨g,e⟩ | ⟨g,e⟩ | ⟨g,e⟩ | ⟨g,e⟩<;>first | (rw [e]; done) | (exfalso; omega)
   exact oC hop hs (by show fx 100 _=_; unfold fx; rw [if_neg (by decide),if_neg (by decide)]; omega) (by show fx 97 _=_; unfold fx; rw [if_neg (by decide),if_neg (by decide)]; omega) (by show fx 45 _=_; unfold fx; rw [if_pos rfl]; omega) (by show fx 117 _=_; unfold fx; rw [if_neg (by decide),if_neg (by decide)]; omega) hn
 . have hs : jQ op=[45, 45, 45, 117] := by
    rcases fU op with⟨g,e⟩ | ⟨g,e⟩ | ⟨g,e⟩ | ⟨g,e⟩ | ⟨g,e⟩ | ⟨g,e⟩ | ⟨g,e⟩ | ⟨g,e⟩ | ⟨g,e⟩ | ⟨g,e⟩<;>first | (rw [e]; done) | (exfalso; omega)
   exact oC hop hs (by show fx 45 _=_; unfold fx; rw [if_pos rfl]; omega) (by show fx 45 _=_; unfold fx; rw [if_pos rfl]; omega) (by show fx 45 _=_; unfold fx; rw [if_pos rfl]; omega) (by show fx 117 _=_; unfold fx; rw [if_neg (by decide),if_neg (by decide)]; omega) hn
 . have hs : jQ op=[45, 97, 45, 45] := by
    rcases fU op with⟨g,e⟩ | ⟨g,e⟩ | ⟨g,e⟩ | ⟨g,e⟩ | ⟨g,e⟩ | ⟨g,e⟩ | ⟨g,e⟩ | ⟨g,e⟩ | ⟨g,e⟩ | ⟨g,e⟩<;>first | (rw [e]; done) | (exfalso; omega)
   exact oC hop hs (by show fx 45 _=_; unfold fx; rw [if_pos rfl]; omega) (by show fx 97 _=_; unfold fx; rw [if_neg (by decide),if_neg (by decide)]; omega) (by show fx 45 _=_; unfold fx; rw [if_pos rfl]; omega) (by show fx 45 _=_; unfold fx; rw [if_pos rfl]; omega) hn
 . have hs : jQ op=[45, 45, 45, 45] := by
    rcases fU op with⟨g,e⟩ | ⟨g,e⟩ | ⟨g,e⟩ | ⟨g,e⟩ | ⟨g,e⟩ | ⟨g,e⟩ | ⟨g,e⟩ | ⟨g,e⟩ | ⟨g,e⟩ | ⟨g,e⟩<;>first | (rw [e]; done) | (exfalso; omega)
   exact oC hop hs (by show fx 45 _=_; unfold fx; rw [if_pos rfl]; omega) (by show fx 45 _=_; unfold fx; rw [if_pos rfl]; omega) (by show fx 45 _=_; unfold fx; rw [if_pos rfl]; omega) (by show fx 45 _=_; unfold fx; rw [if_pos rfl]; omega) hn
theorem ai6{i:aW}(h:jV i=0):D_ (encI i)=.tuple #[kK i.op i.d i.a i.b i.n,.int .i64 0]:=by
 unfold encI;rw [if_pos h];exact ang _ _ _ _ _ ((lS _ _ _ _ _).1 h)
def Bs(w:World)(v:Value)(s:ByteArray):Prop:=Sl w v (s.data.toList.map fun b=>.int .u8 b.toNat)
theorem Bs.aof{w:World}{v:Value}{z:List Int}(h:Sl w v (z.map (.int .u8)))(hz:∀ n∈z,(Lit.int .u8 n).wf=true):Bs w v (strOfNums z):=by
 have e:(strOfNums z).data.toList.map (fun b=>Value.int .u8 b.toNat)=z.map (.int .u8):=by
  rw [strOfNums_data,List.map_map];refine List.map_congr_left fun n hn=>?_;have hw:=hz n hn;simp only [Lit.wf,IntKind.min,IntKind.max,IntKind.signed,IntKind.bits] at hw;simp at hw;show Value.int .u8 ((UInt8.ofNat n.toNat).toNat:Int)=.int .u8 n;congr 1;rw [UInt8.toNat_ofNat'];omega
 unfold Bs;rw [e];exact h
theorem akm{w:World}{v:Value}{s:ByteArray}(h:Bs w v s):(convert 29 9 v).run Tryz.prog w=.ok (.string s) w:=by
 obtain⟨A,c,hv,hc,hx⟩:=h;have hl:(s.data.toList.map fun b=>Value.int .u8 b.toNat).length=s.data.toList.length:=by simp
 rw [hl] at hv hx;by_cases h0:0<s.data.toList.length
 . obtain⟨b,off,rfl,hk⟩:=hx h0
   rw [hv]
   have:=run_convert_bytes_back (P:=Tryz.prog) w 29 9 5 ⟨b,off,none⟩ c s.data.toList Tryz.underlying29 Tryz.underlying5 Tryz.underlying9 (fun j hj=>by
    rw [add_plain,hk j hj,List.getElem?_map,List.getElem?_eq_getElem hj]
    rfl)
   rw [this]
 . have hn:s.data.toList.length=0:=by omega
   have hs:s=⟨#[]⟩:=by
    apply ByteArray.ext;have:=List.length_eq_zero_iff.1 hn;exact Array.toList_inj.mp this
   rw [hv,hn,hs]
   cases A with
   | none=>exact run_convert_bytes_nil w 29 5 Tryz.underlying29 Tryz.underlying5 0 c 9 Tryz.underlying9
   | some a =>
    have:=run_convert_bytes_back (P:=Tryz.prog) w 29 9 5 a c [] Tryz.underlying29 Tryz.underlying5 Tryz.underlying9 (fun j hj=>absurd hj (by simp));exact this
