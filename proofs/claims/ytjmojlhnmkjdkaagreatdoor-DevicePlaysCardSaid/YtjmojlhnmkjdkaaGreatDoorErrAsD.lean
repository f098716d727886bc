/- errors.As at a target of the table's own kind of error (the kit's worked example of it, turned to this program). -/
import Derived.Test.YtjmojlhnmkjdkaaGreatDoorProg
import Derived.WalkKit
import Derived.Stop.Asserts
import Derived.RowKitTokens
namespace Go.Proofs.YtjmojlhnmkjdkaaGreatDoor
open Go.RowKit Go.Extern.Stop Go.Stop Go.Extern
theorem as_nil (t:Value) (w:World) :
 Calls Tryz.prog 240 #[.nilIface,t] w fun e w'=>e=.returned (.bool false)/\w'=w:=by
 go_enter Tryz.func240,Tryz.ntmps240
 go_wp2;go_ret;exact⟨rfl,rfl⟩
theorem U4 (t:Addr) (w:World):(ReflectliteValue.unpack (.iface 294 (.pointer (some t)))).run Tryz.prog w
 = .ok (.agg #[.pointer (some ⟨11,294,none⟩),.pointer (some ⟨w.heap.size,0,none⟩),.int .u64 150]) (w.alloc (.cells #[.pointer (some t)] 294)):=by kernel_rfl
theorem aeo (a : Addr) (w : World) : (ReflectliteValue.methodAny (ReflectliteValue.valueError "reflectlite.Value.Type" 0) (fun t _ _ _ => ReflectliteType.toType t) #[.agg #[.pointer (some ⟨11, 294, none⟩), .pointer (some a), .int .u64 150]]).run Tryz.prog w
 = .ok (.iface 309 (.agg #[.pointer (some ⟨11,294,none⟩)])) w:=by kernel_rfl
theorem SE (h : Value) (w : World) : (Go.method 536 309 (.agg #[h]) "Kind").run Tryz.prog w = .ok (378, h) w := by kernel_rfl
theorem aep(w:World):((ReflectliteType.abiMethod fun t=>(fun a:Nat=>Value.int IntKind.u8 (a:Int)) <$> Rtype.kind t) #[.pointer (some ⟨11,294,none⟩)]).run Tryz.prog w=.ok (.int .u8 22) w:=by kernel_rfl
theorem aer(w:World):((ReflectliteType.abiMethod fun t=>(fun a:Nat=>Value.int IntKind.u8 (a:Int)) <$> Rtype.kind t) #[.pointer (some ⟨11,292,none⟩)]).run Tryz.prog w=.ok (.int .u8 22) w:=by kernel_rfl
theorem rlm (z:Sem Value) (f:TypeId->Addr->Nat->Nat->Sem Value) (v:Value) :
 ReflectliteValue.method z f #[v]=(do match <- ReflectliteValue.parts v with | none=>z | some (t,a,fl)=>f t a fl (fl%32)):=rfl
theorem Nu(a:Addr)(w:World):(ReflectliteValue.parts (.agg #[.pointer (some ⟨11,294,none⟩),.pointer (some a),.int .u64 150])).run Tryz.prog w=.ok (some (294,a,150)) w:=by kernel_rfl
theorem abn(a p:Addr)(W:World)(ha:W.cell? a=some (.pointer (some p))) :
 (ReflectliteValue.method (ReflectliteValue.valueError "reflectlite.Value.IsNil" 0) ReflectliteValue.isNil #[.agg #[.pointer (some ⟨11, 294, none⟩), .pointer (some a), .int .u64 150]]).run Tryz.prog W = .ok (.bool false) W := by
 rw [rlm];simp only [Sem.run_bind,Nu,Result.andThen];simp [ReflectliteValue.isNil,loadVar,isAgg,underlying,Tryz.underlying294,ha,Result.andThen]
theorem SG (h : Value) (w : World) : (Go.method 536 309 (.agg #[h]) "Elem").run Tryz.prog w = .ok (406, .agg #[h]) w := by kernel_rfl
theorem Gz (h : Value) (w : World) : (Go.method 536 309 (.agg #[h]) "Implements").run Tryz.prog w = .ok (407, .agg #[h]) w := by kernel_rfl
theorem DL (h : Value) (w : World) : (Go.method 536 309 (.agg #[h]) "AssignableTo").run Tryz.prog w = .ok (404, .agg #[h]) w := by kernel_rfl
theorem aes(w:World):(ReflectliteType.method ReflectliteType.elem #[.agg #[.pointer (some ⟨11,294,none⟩)]]).run Tryz.prog w=.ok (.iface 309 (.agg #[.pointer (some ⟨11,292,none⟩)])) w:=by kernel_rfl
theorem Nv (w : World) : (ReflectliteType.relation "Implements" ReflectliteType.implements_ #[.agg #[.pointer (some ⟨11, 292, none⟩)], .iface 309 (.agg #[.pointer (some ⟨11, 144, none⟩)])]).run Tryz.prog w = .ok (.bool true) w := by kernel_rfl
theorem Yx(v:Value)(w:World):(ReflectliteType.typeOf #[.iface 292 v]).run Tryz.prog w=.ok (.iface 309 (.agg #[.pointer (some ⟨11,292,none⟩)])) w:=by kernel_rfl
theorem Nw (w : World) : (ReflectliteType.relation "AssignableTo" ReflectliteType.assignableTo #[.agg #[.pointer (some ⟨11, 292, none⟩)], .iface 309 (.agg #[.pointer (some ⟨11, 292, none⟩)])]).run Tryz.prog w = .ok (.bool true) w := by kernel_rfl
theorem U5 (e:Addr) (w:World):(ReflectliteValue.unpack (.iface 292 (.pointer (some e)))).run Tryz.prog w
 = .ok (.agg #[.pointer (some ⟨11,292,none⟩),.pointer (some ⟨w.heap.size,0,none⟩),.int .u64 150]) (w.alloc (.cells #[.pointer (some e)] 292)):=by kernel_rfl
theorem Yy(w:World):(Rtype.elem? 294).run Tryz.prog w=.ok (some 292) w:=by kernel_rfl
theorem ame(p:Addr)(w:World):(ReflectliteValue.mk 292 p ReflectliteValue.flagAddr).run Tryz.prog w=.ok (.agg #[.pointer (some ⟨11,292,none⟩),.pointer (some p),.int .u64 406]) w:=by kernel_rfl
theorem abo(a p:Addr)(W:World)(ha:W.cell? a=some (.pointer (some p))) :
 (ReflectliteValue.method (ReflectliteValue.valueError "reflectlite.Value.Elem" 0) ReflectliteValue.elem #[.agg #[.pointer (some ⟨11, 294, none⟩), .pointer (some a), .int .u64 150]]).run Tryz.prog W
   = .ok (.agg #[.pointer (some ⟨11,292,none⟩),.pointer (some p),.int .u64 406]) W:=by
 rw [rlm];simp only [Sem.run_bind,Nu,Result.andThen];simp [ReflectliteValue.elem,loadVar,isAgg,underlying,Tryz.underlying294,ha,Result.andThen,Yy,ame]
theorem rls(v x:Value):ReflectliteValue.set #[v,x]=(do
 let (some (dst,a,fl),some (src,b,_)):=(<- ReflectliteValue.parts v,<- ReflectliteValue.parts x)
  | unsupported (.noEntry "extern/(internal/reflectlite.Value).Set.zeroValue")
 if fl / ReflectliteValue.flagAddr % 2 == 0 then unsupported (.noEntry "extern/(internal/reflectlite.Value).Set.unaddressable")
 let val <- loadVar src b
 if <- Rtype.directlyAssignable dst src then storeVar dst a val
 else if <- Rtype.implements dst src then
  if (<- Rtype.kind src) == 20 then
   match val with
   | .nilIface => unsupported (.noEntry "extern/reflectlite: a nil value of one interface type handed on as a value of another")
   | _=>storeVar dst a val
  else storeVar dst a (.iface src val)
 else panicString ("reflectlite.Set: value of type " ++ (← Rtype.spelt src) ++ " is not assignable to type " ++ (← Rtype.spelt dst))
 pure (.tuple #[])):=rfl
theorem Yz(a:Addr)(w:World):(ReflectliteValue.parts (.agg #[.pointer (some ⟨11,292,none⟩),.pointer (some a),.int .u64 406])).run Tryz.prog w=.ok (some (292,a,406)) w:=by kernel_rfl
theorem abp(a:Addr)(w:World):(ReflectliteValue.parts (.agg #[.pointer (some ⟨11,292,none⟩),.pointer (some a),.int .u64 150])).run Tryz.prog w=.ok (some (292,a,150)) w:=by kernel_rfl
theorem YA(w:World):(Rtype.directlyAssignable 292 292).run Tryz.prog w=.ok true w:=by kernel_rfl
theorem ah1(ta b e:Addr)(old:Value)(W:World)(hb:W.cell? b=some (.pointer (some e)))(ht:W.cell? ta=some old)(hf:W.frozen? ta=false) :
 (ReflectliteValue.set #[.agg #[.pointer (some ⟨11,292,none⟩),.pointer (some ta),.int .u64 406],.agg #[.pointer (some ⟨11,292,none⟩),.pointer (some b),.int .u64 150]]).run Tryz.prog W
   = .ok (.tuple #[]) (W.setCell ta (.pointer (some e))):=by
 rw [rls];simp only [Sem.run_bind,Yz,abp,Result.andThen];simp [ReflectliteValue.flagAddr,loadVar,isAgg,underlying,Tryz.underlying292,hb,Result.andThen,YA,storeVar,Value.cells,storeCells,Addr.add];rw [run_store Tryz.prog W ta _ _ (by rfl)];simp [ht,hf]
set_option maxHeartbeats 4000000 in
theorem as_hit(e t:Addr)(old:Value)(w:World)(hg:w.cell? ⟨2,0,none⟩=some (.iface 309 (.agg #[.pointer (some ⟨11,144,none⟩)])))(ht0:w.cell? t=some old)(hf0:w.frozen? t=false) :
 Calls Tryz.prog 240 #[.iface 292 (.pointer (some e)),.iface 294 (.pointer (some t))] w fun ev w'=>ev=.returned (.bool true)/\w'=((((w.alloc (.cells #[.pointer (some t)] 294)).alloc (.cells #[.pointer (some ⟨11,294,none⟩),.pointer (some ⟨w.heap.size,0,none⟩),.int .u64 150] 330)).alloc (.cells #[.pointer (some ⟨11,294,none⟩),.pointer (some ⟨w.heap.size,0,none⟩),.int .u64 150] 330)).alloc (.cells #[.pointer (some e)] 292)).setCell t (.pointer (some e)):=by
 have h6:=@run_callFunc_extern Tryz.prog 275 _ (fun args => ReflectliteValue.unpack (args.getD 0 (.tuple #[]))) Tryz.func275 (by kernel_rfl) (by kernel_rfl) (by kernel_rfl) (by kernel_rfl);have h7 := @run_callFunc_extern Tryz.prog 276 _ (ReflectliteValue.methodAny (ReflectliteValue.valueError "reflectlite.Value.Type" 0) (fun t _ _ _ => ReflectliteType.toType t)) Tryz.func276 (by kernel_rfl) (by kernel_rfl) (by kernel_rfl) (by kernel_rfl);have h8 := @run_callFunc_extern Tryz.prog 277 _ (ReflectliteValue.method (ReflectliteValue.valueError "reflectlite.Value.IsNil" 0) ReflectliteValue.isNil) Tryz.func277 (by kernel_rfl) (by kernel_rfl) (by kernel_rfl) (by kernel_rfl);have h27:=@run_callFunc_extern Tryz.prog 378 _ (ReflectliteType.abiMethod fun t => do pure (.int .u8 (← Rtype.kind t))) Tryz.func378 (by kernel_rfl) (by kernel_rfl) (by kernel_rfl) (by kernel_rfl);have h37:=@run_callFunc_extern Tryz.prog 406 _ (ReflectliteType.method ReflectliteType.elem) Tryz.func406 (by kernel_rfl) (by kernel_rfl) (by kernel_rfl) (by kernel_rfl);have h38 := @run_callFunc_extern Tryz.prog 407 _ (ReflectliteType.relation "Implements" ReflectliteType.implements_) Tryz.func407 (by kernel_rfl) (by kernel_rfl) (by kernel_rfl) (by kernel_rfl);have h10:=@run_callFunc_extern Tryz.prog 212 _ ReflectliteType.typeOf Tryz.func212 (by kernel_rfl) (by kernel_rfl) (by kernel_rfl) (by kernel_rfl);have h35 := @run_callFunc_extern Tryz.prog 404 _ (ReflectliteType.relation "AssignableTo" ReflectliteType.assignableTo) Tryz.func404 (by kernel_rfl) (by kernel_rfl) (by kernel_rfl) (by kernel_rfl);have h11 := @run_callFunc_extern Tryz.prog 309 _ (ReflectliteValue.method (ReflectliteValue.valueError "reflectlite.Value.Elem" 0) ReflectliteValue.elem) Tryz.func309 (by kernel_rfl) (by kernel_rfl) (by kernel_rfl) (by kernel_rfl);have h12:=@run_callFunc_extern Tryz.prog 310 _ ReflectliteValue.set Tryz.func310 (by kernel_rfl) (by kernel_rfl) (by kernel_rfl) (by kernel_rfl);have tO:=Yx;have mA:=DL;have a25:=Nw;have v25:=U5;have f6:=U4;have f7:=aeo;have mK:=SE;have mE:=SG;have mI:=Gz;have k27:=aep;have k25:=aer;have e27:=aes;have i25:=Nv;have n8:=abn ⟨w.heap.size,0,none⟩ t ((w.alloc (.cells #[.pointer (some t)] 294)).alloc (.cells #[.pointer (some ⟨11,294,none⟩),.pointer (some ⟨w.heap.size,0,none⟩),.int .u64 150] 330)) (by simp);have hlt:2 < w.heap.size:=World.block_lt_of_cell? w _ hg
 have hg2:((w.alloc (.cells #[.pointer (some t)] 294)).alloc (.cells #[.pointer (some ⟨11,294,none⟩),.pointer (some ⟨w.heap.size,0,none⟩),.int .u64 150] 330)).cell? ⟨2,0,none⟩=some (.iface 309 (.agg #[.pointer (some ⟨11,144,none⟩)])):=by
  rw [World.cell?_alloc_lt _ _ ⟨2,0,none⟩ (by simp; omega),World.cell?_alloc_lt _ _ ⟨2,0,none⟩ hlt]; exact hg
 have htl:t.block<w.heap.size:=by
  rcases Nat.lt_or_ge t.block w.heap.size with h | h
  . exact h
  . simp [World.cell?,Array.getElem?_eq_none h] at ht0
 have el:=abo ⟨w.heap.size,0,none⟩ t (((w.alloc (.cells #[.pointer (some t)] 294)).alloc (.cells #[.pointer (some ⟨11,294,none⟩),.pointer (some ⟨w.heap.size,0,none⟩),.int .u64 150] 330)).alloc (.cells #[.pointer (some ⟨11,294,none⟩),.pointer (some ⟨w.heap.size,0,none⟩),.int .u64 150] 330)) (by rw [World.cell?_alloc_lt _ _ ⟨w.heap.size,0,none⟩ (by simp; omega)]; simp)
 have st:=ah1 t ⟨w.heap.size+1+1+1,0,none⟩ e old ((((w.alloc (.cells #[.pointer (some t)] 294)).alloc (.cells #[.pointer (some ⟨11,294,none⟩),.pointer (some ⟨w.heap.size,0,none⟩),.int .u64 150] 330)).alloc (.cells #[.pointer (some ⟨11,294,none⟩),.pointer (some ⟨w.heap.size,0,none⟩),.int .u64 150] 330)).alloc (.cells #[.pointer (some e)] 292))
  (by rw [World.cell?_alloc_at _ _ _ _ (by simp)]; rfl)
  (by rw [World.cell?_alloc_lt _ _ t (by simp; omega),World.cell?_alloc_lt _ _ t (by simp; omega),World.cell?_alloc_lt _ _ t (by simp; omega),World.cell?_alloc_lt _ _ t htl]; exact ht0)
  (by rw [World.frozen?_alloc_old _ _ t (by simp; omega),World.frozen?_alloc_old _ _ t (by simp; omega),World.frozen?_alloc_old _ _ t (by simp; omega),World.frozen?_alloc_old _ _ t (Nat.ne_of_lt htl)]; exact hf0)
 go_enter Tryz.func240,Tryz.ntmps240
 go_wp2;refine wp_loop_rounds 1 ?_;rw [rounds_succ];go_wp2;go_ret;exact⟨rfl,rfl⟩
