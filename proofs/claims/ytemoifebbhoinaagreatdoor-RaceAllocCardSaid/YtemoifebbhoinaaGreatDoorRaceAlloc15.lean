/- Part of the proof of: The law RaceAlloc returns true for every input, and leaves its arguments as they were. -/
import Derived.Test.YtemoifebbhoinaaGreatDoorRaceAlloc14
set_option linter.all false
set_option maxRecDepth 20000
namespace Go.Proofs.YtemoifebbhoinaaGreatDoor
open Tryz
section
open Go Mb
variable {ET:Nat} {EF:Nat × Nat}
abbrev du (b:Nat):Value:=.iface bg (.pointer (some ⟨b,0,none⟩))
theorem g0:prog.globals.size = 4:=by kernel_rfl
theorem g1:typeHandle prog bg = pv (some (4,bg)):=by kernel_rfl
theorem g2:(prog.globals[0]?).map (·.type) = some 249:=by kernel_rfl
theorem oneErr:((List.range 351).filter fun t=>prog.rowNamed t [101,114,114,111,114]) = [199]:=by kernel_rfl
theorem g4:prog.types.size = 351:=by kernel_rfl
abbrev rtV (T:Nat):Value:=.iface ry (.agg #[pv (some (4,T))])
abbrev vl (T c f:Nat):aI:=⟨some (4,T),some (c,0),f⟩
abbrev vlV (T c f:Nat):Value:=.agg (aI.C (vl T c f)).toArray
section
variable (b:Nat) (K:Next->Hp->Prop) (h:Hp)
theorem x7:hp prog (callFunc gi #[du b]) K h = K (.value (rtV bg)) h:=by kernel_rfl
theorem x8:hp prog (callFunc cW #[.iface bD (.pointer (some ⟨b,0,none⟩))]) K h = (true = true/\∀ e,h e = none->K (.value (vlV bD e 150)) (dV h e (.cells #[pv (some (b,0))] bD (0,0)))):=by kernel_rfl
theorem x8':hp prog (callFunc cW #[du b]) K h = (true = true/\∀ e,h e = none->K (.value (vlV bg e 150)) (dV h e (.cells #[pv (some (b,0))] bg (0,0)))):=by kernel_rfl
theorem x10:hp prog (callMethod (rtV bD) "Kind" #[]) K h = K (.value (.int .u8 22)) h:=by kernel_rfl
theorem x11:hp prog (callMethod (rtV bD) "Elem" #[]) K h = K (.value (rtV bg)) h:=by kernel_rfl
theorem x12:hp prog (callMethod (rtV bg) "Kind" #[]) K h = K (.value (.int .u8 22)) h:=by kernel_rfl
theorem x13:hp prog (callMethod (rtV bg) "Comparable" #[]) K h = K (.value (.bool true)) h:=by kernel_rfl
theorem x14:hp prog (callMethod (rtV bg) "AssignableTo" #[rtV bg]) K h = K (.value (.bool true)) h:=by kernel_rfl
theorem x15 (c:Nat):hp prog (callFunc iz #[vlV bD c 150]) K h = K (.value (rtV bD)) h:=by kernel_rfl
theorem x16 (c:Nat):hp prog (callFunc eT #[vlV bD c 150]) K h =
 hp prog (do let r ← Extern.ReflectliteValue.isNil bD ⟨c,0,none⟩ 150 22; pure (.value r)) K h:=by kernel_rfl
theorem x17:hp prog (callMethod (rtV bg) "Implements" #[rtV gx]) K h = K (.value (.bool true)) h:=by kernel_rfl
theorem x18 (c:Nat):hp prog (callFunc fj #[vlV bD c 150]) K h =
 hp prog (do let r ← Extern.ReflectliteValue.elem bD ⟨c,0,none⟩ 150 22; pure (.value r)) K h:=by kernel_rfl
theorem x19 (c d:Nat):hp prog (callFunc fx #[vlV bg c 406,vlV bg d 150]) K h =
 hp prog (do let r ← (do let v ← loadVar bg ⟨d,0,none⟩; storeVar bg ⟨c,0,none⟩ v; pure (Value.tuple #[])); pure (.value r)) K h:=by kernel_rfl
theorem y1 (c:Nat) (K:Value->Hp->Prop):hp prog (loadVar bD ⟨c,0,none⟩) K h = ∃ v,lb h ⟨c,0,none⟩ = some v/\K v h:=by kernel_rfl
theorem y2 (c:Nat) (K:Value->Hp->Prop):hp prog (loadVar bg ⟨c,0,none⟩) K h = ∃ v,lb h ⟨c,0,none⟩ = some v/\K v h:=by kernel_rfl
theorem y3 (b:Nat) (K:Value->Hp->Prop):hp prog (Extern.ReflectliteValue.mk bg ⟨b,0,none⟩ Extern.ReflectliteValue.flagAddr) K h = K (vlV bg b 406) h:=by kernel_rfl
theorem y4 (K:Option TypeId->Hp->Prop):hp prog (Extern.Rtype.elem? bD) K h = K (some bg) h:=by kernel_rfl
theorem y5 (b c:Nat) (K:Unit->Hp->Prop):hp prog (storeVar bg ⟨c,0,none⟩ (.pointer (some ⟨b,0,none⟩))) K h = hp prog (storeCells ⟨c,0,none⟩ [.pointer (some ⟨b,0,none⟩)]) K h:=by kernel_rfl
theorem y6 (K:Value->Hp->Prop) {a b n m:Nat}:hp prog (do eqGuard .eql 199 (.tmp n) (.tmp m) (du a) (du b); binOp .eql 199 (du a) (du b):Sem Value) K h = hp prog (do let r ← sameAddr ⟨a,0,none⟩ ⟨b,0,none⟩; pure (.bool r)) K h:=by kernel_rfl
theorem x25 (K:Bool->Hp->Prop) {a b:Nat} {ca cb:List Value} {Ta Tb:Nat} (ha:h a = some (.cells ca.toArray Ta (0,0))) (hb:h b = some (.cells cb.toArray Tb (0,0))) (H:K (a == b) h):hp prog (sameAddr ⟨a,0,none⟩ ⟨b,0,none⟩) K h:=by
 unfold sameAddr
 rcases Decidable.em (a = b) with e | e
 ·subst e
  rw [if_pos (by simp)]
  have H':K true h:=by simpa using H
  simpa [xr] using H'
 ·rw [if_neg (by simpa using e)]
  have fa:∀ (K:Bool->Hp->Prop) (o:Nat),hp prog (frozen ⟨a,o,none⟩) K h↔K false h:=fun K o =>
   ⟨fun ⟨o',h1,h2⟩=>by rw [ha] at h1; cases h1; simpa [hp,us] using h2,fun h2=>⟨_,ha,by simpa [hp,us] using h2⟩⟩
  have fb:∀ (K:Bool->Hp->Prop) (o:Nat),hp prog (frozen ⟨b,o,none⟩) K h↔K false h:=fun K o =>
   ⟨fun ⟨o',h1,h2⟩=>by rw [hb] at h1; cases h1; simpa [hp,us] using h2,fun h2=>⟨_,hb,by simpa [hp,us] using h2⟩⟩
  have sa:∀ (K:Option (TypeId × Nat)->Hp->Prop),hp prog (shape a) K h↔K (some (Ta,ca.length)) h:=fun K =>
   ⟨fun ⟨o',h1,h2⟩=>by rw [ha] at h1; cases h1; simpa [hp,oshape] using h2,fun h2=>⟨_,ha,by simpa [hp,oshape] using h2⟩⟩
  have sb:∀ (K:Option (TypeId × Nat)->Hp->Prop),hp prog (shape b) K h↔K (some (Tb,cb.length)) h:=fun K =>
   ⟨fun ⟨o',h1,h2⟩=>by rw [hb] at h1; cases h1; simpa [hp,oshape] using h2,fun h2=>⟨_,hb,by simpa [hp,oshape] using h2⟩⟩
  have eb:(a == b) = false:=by simpa using e
  rw [eb] at H
  simp [cT,fa,fb,sa,sb,noView,viewAt,mayBeOne,stringish,xr,H]
end
section
variable {P:Program} {τ:Type} {enc:τ->Value} {K:τ->Hp->Prop} {h:Hp}
theorem eF {m:Sem Value} (r:τ) (e:∀ (K:Value->Hp->Prop) h,hp P m K h = K (enc r) h) (k:K r h):hpv P m enc K h:=⟨by rw [e]; exact ⟨r,rfl,k⟩⟩
theorem tD {m:Sem Next} (r:τ) (e:∀ (K:Next->Hp->Prop) h,hp P m K h = K (.value (enc r)) h) (k:K r h):cln P m enc K h:=⟨by rw [e]; exact .inl ⟨r,rfl,k⟩⟩
theorem cln_en {m:Sem Next} {f:FuncId} {vs:List Value} (e:∀ (K:Next->Hp->Prop) h,hp P m K h = K (.enter f vs.toArray) h) (k:cl P f vs enc K h):cln P m enc K h:=⟨by rw [e]; exact .inr ⟨f,_,rfl,k⟩⟩
end
abbrev etB (ET:Nat) (EF:Nat × Nat):As:=obj 0 (.cells #[rtV gx] ET EF)
abbrev trB (b:Nat) (t:bZ):As:=blk b nG (bZ.C t)
theorem en_0 (b n:Nat) (K:Value->Hp->Prop) (h:Hp):hp prog (do eqGuard .eql 199 (.tmp n) (.const Value.nilIface) (du b) Value.nilIface; binOp .eql 199 (du b) Value.nilIface:Sem Value) K h = K (.bool false) h:=by kernel_rfl
theorem en_00 (n:Nat) (K:Value->Hp->Prop) (h:Hp):hp prog (do eqGuard .eql 199 (.tmp n) (.const Value.nilIface) Value.nilIface Value.nilIface; binOp .eql 199 Value.nilIface Value.nilIface:Sem Value) K h = K (.bool true) h:=by kernel_rfl
theorem en_1 (b n:Nat) (K:Value->Hp->Prop) (h:Hp):hp prog (do eqGuard .eql 20 (.tmp n) (.const Value.nilIface) (.iface bD (.pointer (some ⟨b,0,none⟩))) Value.nilIface; binOp .eql 20 (.iface bD (.pointer (some ⟨b,0,none⟩))) Value.nilIface:Sem Value) K h = K (.bool false) h:=by kernel_rfl
theorem sp_As_nil (v:Value):Sp prog uy [Value.nilIface,v] aC [] (fun r=>pa_ (r = false) []):=by
 intro h st
 refine sim_errors_As _ _ ?_
 unfold wW
 exact eF true (en_00 _) (dL rfl (aX rfl st))
section
variable {h:Hp} {b c d:Nat}
theorem c22 {K:Bool->Hp->Prop} (e:lb h ⟨c,0,none⟩ = some (.pointer (some ⟨b,0,none⟩))) (H:K false h):cln prog (callFunc eT #[vlV bD c 150]) aC K h:=by
 constructor
 rw [x16,cT]
 unfold Extern.ReflectliteValue.isNil
 rw [if_neg (by decide)]
 rw [cT,y1]; exact ⟨_,e,.inl ⟨false,rfl,H⟩⟩
theorem c23 {K:aI->Hp->Prop} (e:lb h ⟨c,0,none⟩ = some (.pointer (some ⟨b,0,none⟩))) (H:K (vl bg b 406) h):cln prog (callFunc fj #[vlV bD c 150]) fC K h:=by
 constructor
 rw [x18,cT]
 unfold Extern.ReflectliteValue.elem
 rw [if_neg (by decide),cT,y1]
 refine ⟨_,e,?_⟩
 rw [cT,y4]
 show hp _ (Extern.ReflectliteValue.mk _ _ _) _ h
 rw [y3]; exact .inl ⟨_,rfl,H⟩
theorem c24 {K:Unit->Hp->Prop} (e:lb h ⟨d,0,none⟩ = some (.pointer (some ⟨b,0,none⟩))) (H:hp prog (storeCells ⟨c,0,none⟩ [.pointer (some ⟨b,0,none⟩)]) (fun _=>K ()) h):cln prog (callFunc fx #[vlV bg c 406,vlV bg d 150]) R_ K h:=by
 constructor
 rw [x19,cT,cT,y2]; refine ⟨_,e,?_⟩
 rw [cT,y5]; exact hp_mono _ (fun _ _ k=>.inl ⟨(),rfl,k⟩) _ H
theorem c8 {K:aI->Hp->Prop} (H:∀ e,h e = none->K (vl bD e 150) (dV h e (.cells #[pv (some (b,0))] bD (0,0)))):cln prog (callFunc cW #[.iface bD (.pointer (some ⟨b,0,none⟩))]) fC K h:=by
 constructor
 rw [x8]
 exact ⟨rfl,fun e he=>.inl ⟨_,rfl,H e he⟩⟩
theorem c8' {K:aI->Hp->Prop} (H:∀ e,h e = none->K (vl bg e 150) (dV h e (.cells #[pv (some (b,0))] bg (0,0)))):cln prog (callFunc cW #[du b]) fC K h:=by
 constructor
 rw [x8']
 exact ⟨rfl,fun e he=>.inl ⟨_,rfl,H e he⟩⟩
end
theorem blk_cell {l:List As} {h:Hp} {i b:Nat} {T:TypeId} {c:List Value} {v:Value} (hi:l[i]? = some (blk b T c)) (hv:c[0]? = some v) (s:aF l h):lb h ⟨b,0,none⟩ = some v:=by
 obtain ⟨g1,a1,sub1⟩:=dH hi s
 have:=sub1 _ _ a1
 unfold lb
 rw [this]
 simpa using hv
theorem sp_as (b c d:Nat) (p:Ptr):Sp prog ux [du b,.iface bD (.pointer (some ⟨c,0,none⟩)),vlV bD d 150,rtV bg] aC
  [blk c bg [pv p],blk d bD [pv (some (c,0))]] (fun r=>pa_ (r = true) [blk c bg [pv (some (b,0))]]):=by
 intro h st
 refine sim_errors_as _ _ _ _ ?_
 unfold sh_errors_as
 refine ⟨fun s h=>s = du b/\aF [blk c bg [pv p],blk d bD [pv (some (c,0))]] h,fun _ _=>0,⟨rfl,st⟩,?_⟩
 rintro _ h1 ⟨rfl,s1⟩
 unfold xy
 refine tD (rtV bg) (fun K h=>x7 b K h) ?_
 refine tD true (fun K h=>x14 K h) (dL rfl ?_)
 refine c23 (blk_cell (i:=1) rfl rfl s1) ?_
 refine c8' fun e he=>?_
 have s2:aF (blk e bg [pv (some (b,0))]::_) _:=new_s (o:=.cells #[pv (some (b,0))] bg (0,0)) s1 he
 refine c24 (blk_cell (i:=0) (T:=bg) (c:=[pv (some (b,0))]) rfl rfl s2) ?_
 obtain ⟨g2,a2,sub2⟩:=dH (i:=1) (A:=blk c bg [pv p]) rfl s2
 refine hp_storeCells _ 0 0 [pv p] _ (sub2 _ _ a2) (by simp) rfl ?_
 have s3:aF (_::blk c bg [pv (some (b,0))]::_) _:=obj_set (o':=.cells #[pv (some (b,0))] bg (0,0)) (i:=1) s2 rfl
 exact aX rfl (ce (l:=[_,_]) (bd [0,1] s3 rfl))
theorem sp_As (b c:Nat) (p:Ptr):Sp prog uy [du b,.iface bD (.pointer (some ⟨c,0,none⟩))] aC
  [(etB ET EF),blk c bg [pv p]] (fun r=>pa_ (r = true) [(etB ET EF),blk c bg [pv (some (b,0))]]):=by
 intro h st
 refine sim_errors_As _ _ ?_
 unfold wW
 refine eF false (en_0 b _) (dn rfl ?_)
 refine eF false (en_1 c _) (dn rfl ?_)
 unfold xB
 refine c8 fun e he=>?_
 have s2:aF (blk e bD [pv (some (c,0))]::_) _:=new_s (o:=.cells #[pv (some (c,0))] bD (0,0)) st he
 refine tD (rtV bD) (fun K h=>x15 K h e) ?_
 refine tD 22 (fun K h=>x10 K h) (dL rfl ?_)
 refine c22 (blk_cell (i:=0) (T:=bD) (c:=[pv (some (c,0))]) rfl rfl s2) (dn rfl ?_)
 unfold xA
 refine tD (rtV bg) (fun K h=>x11 K h) ?_
 refine tD 22 (fun K h=>x12 K h) (dL rfl ?_)
 obtain ⟨g3,a3,sub3⟩:=dH (i:=1) (A:=etB ET EF) rfl s2
 refine ⟨rtV gx,⟨_,_,_,sub3 _ _ a3,fun i v hv=>?_⟩,?_⟩
 ·rcases i with _ | i <;> first | exact hv | simp [cV] at hv
 refine tD true (fun K h=>x17 K h) (dn rfl ?_)
 unfold sq
 refine cQ [2,0,1] (rest:=[(etB ET EF)]) (sp_as b c e p) s2 rfl fun r h' s3=>?_
 obtain ⟨rfl,s4⟩:=bt.1 s3
 exact aX rfl (bd [1,0] s4 rfl)
abbrev firstOf (b:Nat):Ptr × Bool:=(some (b,0),true)
theorem sp_First (b:Nat):Sp prog jT [du b] eJ [(etB ET EF)] (fun r=>pa_ (r = firstOf b) [(etB ET EF)]):=by
 intro h st
 refine sim_trap_First _ ?_
 unfold uR
 refine pw st fun c h1 s1=>?_
 refine eF (.iface bD (.pointer (some ⟨c,0,none⟩))) (fun K h=>by kernel_rfl) ?_
 refine cQ [1,0] (rest:=[]) (sp_As b c none) s1 rfl fun r h' s2=>?_
 obtain ⟨rfl,s3⟩:=bt.1 s2
 refine dL rfl ?_
 refine bk (some (b,0)) s3 (i:=1) rfl rfl rfl ?_
 unfold mN
 refine dn rfl ?_
 refine bk (some (b,0)) s3 (i:=1) rfl rfl rfl ?_
 exact aX rfl (ce (l:=[_]) (bd [1] s3 rfl))
theorem sp_First_nil:Sp prog jT [Value.nilIface] eJ [] (fun r=>pa_ (r = (none,false)) []):=by
 intro h st
 refine sim_trap_First _ ?_
 unfold uR
 refine pw st fun c h1 s1=>?_
 refine eF (.iface bD (.pointer (some ⟨c,0,none⟩))) (fun K h=>by kernel_rfl) ?_
 refine tL (sp_As_nil _) s1 fun r h' hr s2=>?_
 subst hr
 refine dn rfl ?_
 unfold mN
 exact dL rfl (aX rfl trivial)
theorem sp_Of (n:Int) (hn:n ≠ 0):Sp prog kA [.int .i64 n] iy [] (fun r=>ex fun b=>pa_ (r = du b) [trB b ⟨n,-1,⟨0,0,0,0,0⟩,.nilIface⟩]):=by
 intro h st
 refine sim_trap_Of _ ?_
 unfold sh_trap_Of
 refine dn (by simpa using hn) ?_
 refine pw st fun b h1 s1=>?_
 refine eF (du b) (fun K h=>by kernel_rfl) ?_
 exact ⟨b,aX rfl s1⟩
theorem sp_Of0:Sp prog kA [.int .i64 0] iy [] (fun r=>pa_ (r = Value.nilIface) []):=by
 intro h st
 refine sim_trap_Of _ ?_
 unfold sh_trap_Of
 exact dL rfl (aX rfl st)
theorem sp_Code (b:Nat) (t:bZ):Sp prog uv [du b] bc [(etB ET EF),trB b t] (fun r=>pa_ (r = t.fDb) [(etB ET EF),trB b t]):=by
 intro h st
 refine sim_trap_Code _ ?_
 unfold sh_trap_Code
 refine eF false (en_0 b _) (dn rfl ?_)
 refine bP (i:=0) (sp_First b) rfl st fun r h' hr s2=>?_
 subst hr
 refine dL rfl (cD ?_)
 refine bk t.fDb s2 (i:=1) rfl rfl rfl ?_
 exact aX rfl s2
theorem sp_In (env:Int) (c:ai) (b:Nat) (t:bZ):Sp prog n_trap_In [.int .i64 env,.agg (ai.C c).toArray,du b] iy [(etB ET EF),trB b t]
  (fun r=>ex fun e=>pa_ (r = du e) [trB e ⟨t.fDb,env,c,du b⟩,(etB ET EF),trB b t]):=by
 intro h st
 refine sim_trap_In _ _ _ ?_
 unfold sh_trap_In
 refine eF false (en_0 b _) (dn rfl ?_)
 refine cQ [] (rest:=[]) (sp_Code b t) st (List.append_nil _).symm fun r h' s2=>?_
 obtain ⟨rfl,s3⟩:=bt.1 s2
 refine eF ⟨t.fDb,env,c,du b⟩ (fun K h=>by kernel_rfl) ?_
 refine pw s3 fun e h1 s4=>?_
 refine eF (du e) (fun K h=>by kernel_rfl) ?_
 exact ⟨e,aX rfl s4⟩
theorem sp_Depth2 (b e:Nat) (t u:bZ) (ht:t.fWa = du e) (hu:u.fWa = Value.nilIface):Sp prog xg [du b] ee [(etB ET EF),trB b t,trB e u] (fun r=>pa_ (r = 2) [(etB ET EF),trB b t,trB e u]):=by
 intro h st
 refine sim_trap_Depth _ ?_
 unfold sh_trap_Depth
 refine bP (i:=0) (sp_First b) rfl st fun r h' hr s2=>?_
 subst hr
 refine ⟨fun s h=>(s = (0,some (b,0),true)\/s = (1,some (e,0),true)\/s = (2,none,false))/\aF [(etB ET EF),trB b t,trB e u] h,fun s _=>3 - s.1.toNat,⟨.inl rfl,s2⟩,?_⟩
 rintro s h1 ⟨rfl | rfl | rfl,s3⟩
 ·unfold mO
  refine dL rfl (cD ?_)
  refine bk t.fWa s3 (i:=1) rfl rfl rfl ?_
  rw [ht]
  refine bP (i:=0) (sp_First e) rfl s3 fun r h' hr s4=>?_
  subst hr
  exact ⟨⟨.inr (.inl rfl),s4⟩,Nat.le_of_ble_eq_true rfl⟩
 ·unfold mO
  refine dL rfl (cD ?_)
  refine bk u.fWa s3 (i:=2) rfl rfl rfl ?_
  rw [hu]
  refine tL sp_First_nil s3 fun r h' hr s4=>?_
  subst hr
  exact ⟨⟨.inr (.inr rfl),s4⟩,Nat.le_of_ble_eq_true rfl⟩
 ·unfold mO
  exact dn rfl (aX rfl s3)
end
section
open Go Mb
set_option linter.unusedVariables false
def sh_strconv_Itoa (a0:Int) (K:ByteArray->Hp->Prop):Hp->Prop:=cl prog jA [(.int .i64 a0)] dR fun r4=>K r4
theorem sim_strconv_Itoa (a0:Int) {K:ByteArray->Hp->Prop} {h:Hp} (H:sh_strconv_Itoa a0 K h):Ct prog tf #[(.int .i64 a0)] h fun v h'=>∃ r,v = dR r/\K r h':=ay [(.int .i64 a0)] func256 c c c fun _=>M<|O c<|M<|J c<|aa<|Z H en_257 fun r4 _ H1=>O c<|aj<|Y ⟨r4,c,H1⟩
end
section
open Go Mb
set_option linter.unusedVariables false
def mw (a0:Int) (K:ByteArray->Hp->Prop):Hp->Prop:=br (decide (a0 < 10)) ( hpv prog (Instr.sliceAt vd (.string str_73df774b) (some (.int .i64 a0)) (some (.int .i64 (IntKind.i64.wrap (a0 + 1)))) none) dR fun (v8:ByteArray)=>K v8) ( hpv prog (Instr.sliceAt vd (.string str_e9752c08) (some (.int .i64 (IntKind.i64.wrap (a0 * 2)))) (some (.int .i64 (IntKind.i64.wrap ((IntKind.i64.wrap (a0 * 2)) + 2)))) none) dR fun (v14:ByteArray)=>K v14)
theorem sO (a0:Int) {K:ByteArray->Hp->Prop} {h:Hp} (H:mw a0 K h):Ct prog jj #[(.int .i64 a0)] h fun v h'=>∃ r,v = dR r/\K r h':=ay [(.int .i64 a0)] func259 c c c fun _=>M<|O c<|al<|M<|J c<|p (cx c c)<|ad<|aw c H (fun k1 H2=>M<|J c<|J c<|p (bo c c)<|aa<|aR H2 (fe c c c c c) c fun v8 _ H3=>O c<|aj<|Y ⟨v8,c,H3⟩) fun k1 H2=>ao<|M<|J c<|p (v_mul c c)<|J c<|p (v_mul c c)<|p (bo c c)<|aa<|aR H2 (fe c c c c c) c fun v14 _ H4=>O c<|aj<|Y ⟨v14,c,H4⟩
def gl (a0:Int) (K:ByteArray->Hp->Prop) (b5:Nat) (s9:Int):Hp->Prop:=cl prog ro [(.int .u64 s9)] ee fun r27=>hpv prog (Instr.sliceAt wu (.pointer (some ⟨b5,0,none⟩)) (some (.int .i64 1)) (some (.int .i64 (IntKind.i64.wrap (1 + r27)))) none) R_Suint8 fun (v30:Sl)=>cl prog px [(sv v30),(.int .u64 s9)] R_ fun (_:Unit)=>br (decide (a0 < 0)) ( st (b5,0) [.int .u8 45]<|hpv prog (Instr.sliceAt wu (.pointer (some ⟨b5,0,none⟩)) none (some (.int .i64 (IntKind.i64.wrap (1 + r27)))) none) R_Suint8 fun (v38:Sl)=>hpv prog (convert 329 9 (sv v38)) dR fun (v39:ByteArray)=>K v39) ( hpv prog (Instr.sliceAt wu (.pointer (some ⟨b5,0,none⟩)) (some (.int .i64 1)) (some (.int .i64 (IntKind.i64.wrap (1 + r27)))) none) R_Suint8 fun (v42:Sl)=>hpv prog (convert 329 9 (sv v42)) dR fun (v43:ByteArray)=>K v43)
def jN (a0:Int) (a1:Int) (K:ByteArray->Hp->Prop):Hp->Prop:=br (a1 == 10) ( br ((decide (0 <= a0)) && (decide (a0 < 100))) ( cl prog jj [(.int .i64 a0)] dR fun r19=>K r19) ( nw wu [.int .u8 0,.int .u8 0,.int .u8 0,.int .u8 0,.int .u8 0,.int .u8 0,.int .u8 0,.int .u8 0,.int .u8 0,.int .u8 0,.int .u8 0,.int .u8 0,.int .u8 0,.int .u8 0,.int .u8 0,.int .u8 0,.int .u8 0,.int .u8 0,.int .u8 0,.int .u8 0,.int .u8 0,.int .u8 0,.int .u8 0,.int .u8 0] fun b5=>br (decide (a0 < 0)) ( gl a0 K b5 (IntKind.u64.wrap (0 - (IntKind.u64.wrap a0)))) ( gl a0 K b5 (IntKind.u64.wrap a0)))) ( cl prog qS [(sv (⟨none,0,0,none⟩:Sl)),(.int .u64 (IntKind.u64.wrap a0)),(.int .i64 a1),(.bool (decide (a0 < 0))),(.bool false)] R_Suint8_string fun r50=>K r50.2)
theorem pZ (a0:Int) (a1:Int) {K:ByteArray->Hp->Prop} {h:Hp} (H:jN a0 a1 K h):Ct prog gG #[(.int .i64 a0),(.int .i64 a1)] h fun v h'=>∃ r,v = dR r/\K r h':=ay [(.int .i64 a0),(.int .i64 a1)] func258 c c c fun _=>M<|O c<|al<|M<|J c<|p (bQ c c)<|ad<|aw c H (fun k1 H2=>al<|M<|J c<|p (v_le c c)<|J c<|V c c (aB _) (fun g3=>wv<|ah c)<|V c c (aB _) (fun g4=>wv<|cx (aD c g4) c)<|p (bT c c)<|ad<|aw c H2 (fun k5 H6=>M<|J c<|aa<|Z H6 en_259 fun r19 _ H7=>O c<|aj<|Y ⟨r19,c,H7⟩) fun k5 H6=>ao<|M<|aa<|to_alloc zero_326 c c H6 fun b5 _ H8=>ad<|M<|J c<|p (dT ⟨_,underlying2⟩ underlying22 c)<|O c<|eG (gl a0 K b5) (fun s9=>[(0,(.int .i64 a0)),(5,(.pointer (some ⟨b5,0,none⟩))),(6,(.int .u64 s9))]) (fun s9=>[]) (M<|J c<|p (cx c c)<|ad<|aw c H8 (fun k21 H22=>ap<|J c<|p (v_neg c)<|O c<|cM (IntKind.u64.wrap (0 - (IntKind.u64.wrap a0))) H22 (.cons c<|.cons c<|.cons c<|.nil _) .slnil) fun k21 H22=>ao<|cM (IntKind.u64.wrap a0) H22 (.cons c<|.cons c<|.cons c<|.nil _) .slnil) fun s9 _ H10=>M<|J c<|aa<|Z H10 en_260 fun r27 _ H11=>O c<|M<|J c<|p (bo c c)<|aa<|aR H11 (fe c c c c c) c fun v30 _ H12=>J c<|aa<|Z H12 en_261 fun r32 _ H13=>ad<|al<|M<|J c<|p (cx c c)<|ad<|aw c H13 (fun k14 H15=>M<|p (bB arr_326 c c (by decide))<|aa<|dw inf_5 c c c c c H15 fun _ H16=>ad<|M<|J c<|p (bo c c)<|aa<|aR H16 (fe c c c c c) c fun v38 _ H17=>aa<|aR H17 (x_convert c) c fun v39 _ H18=>O c<|aj<|Y ⟨v39,c,H18⟩) fun k14 H15=>ao<|M<|J c<|p (bo c c)<|aa<|aR H15 (fe c c c c c) c fun v42 _ H19=>aa<|aR H19 (x_convert c) c fun v43 _ H20=>O c<|aj<|Y ⟨v43,c,H20⟩) fun k1 H2=>ao<|M<|J c<|p (dT ⟨_,underlying2⟩ underlying22 c)<|J c<|J c<|p (cx c c)<|aa<|Z H2 en_262 fun r50 _ H23=>J c<|p (ak c c)<|p (ak c c)<|p (au c)<|O c<|M<|J c<|O c<|aj<|Y ⟨r50.2,c,H23⟩
def mV (a0:Int) (K:ByteArray->Hp->Prop):Hp->Prop:=cl prog gG [(.int .i64 a0),(.int .i64 10)] dR fun r4=>K r4
theorem tK (a0:Int) {K:ByteArray->Hp->Prop} {h:Hp} (H:mV a0 K h):Ct prog jA #[(.int .i64 a0)] h fun v h'=>∃ r,v = dR r/\K r h':=ay [(.int .i64 a0)] func257 c c c fun _=>M<|O c<|M<|J c<|aa<|Z H en_258 fun r4 _ H1=>O c<|aj<|Y ⟨r4,c,H1⟩
end
section
open Go Mb
set_option linter.unusedVariables false
def pF (K:Bool->Hp->Prop):Hp->Prop:=cl prog kA [(.int .i64 3)] iy fun r5=>cl prog n_trap_In [(.int .i64 2),(.agg (ai.C (⟨1,2,0,0,0⟩:ai)).toArray),r5] iy fun r6=>cl prog jT [r6] eJ fun r9=>hpv prog (do eqGuard .eql 199 (.tmp 12) (.const Value.nilIface) r6 Value.nilIface; binOp .eql 199 r6 Value.nilIface:Sem Value) aC fun (v13:Bool)=>br (v13 || r9.1.isNone) ( K false) ( br r9.2 ( nn r9.1 fun q21=>ld (q21.1,q21.2 + 1) (cI .i64) fun x23=>br (x23 == 2) ( ld (q21.1,q21.2 + 2) ai.C fun x30=>br (ai.eqb x30 (⟨1,2,0,0,0⟩:ai)) ( ld (q21.1,q21.2 + 0) (cI .i64) fun x38=>br (x38 == 3) ( cl prog uv [r6] bc fun r43=>br (r43 == 3) ( cl prog xg [r6] ee fun r48=>br (r48 == 2) ( cl prog kA [(.int .i64 3)] iy fun r53=>cl prog nQ [r6,r53] aC fun r54=>br r54 ( cl prog kA [(.int .i64 4)] iy fun r58=>cl prog nQ [r6,r58] aC fun r59=>br (!r59) ( cln prog (callMethod r6 "Error" #[]) dR fun (v64:ByteArray)=>hpv prog (do eqGuard .eql 9 (.tmp 64) (.const (.string oo)) (.string v64) (.string oo); binOp .eql 9 (.string v64) (.string oo):Sem Value) aC fun (v65:Bool)=>br v65 ( cl prog kA [(.int .i64 0)] iy fun r68=>hpv prog (do eqGuard .eql 199 (.tmp 68) (.const Value.nilIface) r68 Value.nilIface; binOp .eql 199 r68 Value.nilIface:Sem Value) aC fun (v69:Bool)=>K v69) ( K false)) ( K false)) ( K false)) ( K false)) ( K false)) ( K false)) ( K false)) ( K false)) ( K false))
theorem wM {K:Bool->Hp->Prop} {h:Hp} (H:pF K h):Ct prog lC #[] h fun v h'=>∃ r,v = aC r/\K r h':=ay [] func223 c c c fun _=>M<|O c<|M<|p (ba c<|kh 1 2)<|aa<|Z H xE fun r5 _ H1=>aa<|Z H1 en_186 fun r6 _ H2=>O c<|M<|J c<|aa<|Z H2 en_222 fun r9 _ H3=>J c<|p (ak c c)<|p (ak c c)<|p (au c)<|O c<|al<|M<|J c<|aa<|aR H3 (gw c c) c fun v13 _ H4=>J c<|V c c (aL _) (fun g5=>wv<|ah c)<|V c c (aL _) (fun g6=>wv<|cq underlying252<|aD c g6)<|p (dp c c)<|ad<|aw c H4 (fun k7 H8=>M<|O c<|aj<|Y ⟨false,c,H8⟩) fun k7 H8=>ao<|M<|J c<|J c<|V c c (aB _) (fun g9=>wv<|ah c)<|bS H8 (fun k11 H12=>bG H12 fun q21 e13 H14=>F (D k11)<|R (aJ<|aN (aD c k11)<|ar e13)<|F (D k11)<|R (ae fld_254_1 c)<|F (D k11)<|aW H14 aZ c (fun _=>c) c fun x23 H15=>F (D k11)<|R (bQ c c)<|p (aT c k11 c)<|J c<|V c c (aB _) (fun g16=>wv<|ah<|aN c<|ar e13)<|V c c (aB _) (fun g17=>wv<|aJ<|aD c g17)<|V c c (aB _) (fun g18=>wv<|ae fld_254_2<|aD c g18)<|bS H15 (fun k20 H21=>F (D k20)<|gP H21 fz (aD c k20) (fun _=>c) c fun x30 H22=>F (D k20)<|R (ba c<|kh 1 2)<|F (D k20)<|R (v_eqA eqg_34 (eqr_34 9998 _ _) c c)<|p (aT c k20 c)<|J c<|V c c (aB _) (fun g23=>wv<|ah<|aN c<|ar e13)<|V c c (aB _) (fun g24=>wv<|aJ<|aD c g24)<|V c c (aB _) (fun g25=>wv<|ae vX<|aD c g25)<|bS H22 (fun k27 H28=>F (D k27)<|aW H28 oG (aD c k27) (fun _=>c) c fun x38 H29=>F (D k27)<|R (bQ c c)<|p (aT c k27 c)<|J c<|V c c (aB _) (fun g30=>wv<|ah c)<|bS H29 (fun k32 H33=>F (D k32)<|fZ H33 en_208 (aS (aD c k32) bR) c fun r43 _ H34=>F (D k32)<|R (bQ c c)<|p (aT c k32 c)<|J c<|V c c (aB _) (fun g35=>wv<|ah c)<|bS H34 (fun k37 H38=>F (D k37)<|fZ H38 en_228 (aS (aD c k37) bR) c fun r48 _ H39=>F (D k37)<|R (bQ c c)<|p (aT c k37 c)<|J c<|V c c (aB _) (fun g40=>wv<|ah c)<|bS H39 (fun k42 H43=>F (D k42)<|Z H43 xE fun r53 _ H44=>F (D k42)<|fZ H44 en_149 (aS (aD c k42)<|aS c bR) c fun r54 _ H45=>p (aT c k42 c)<|J c<|V c c (aB _) (fun g46=>wv<|ah c)<|bS H45 (fun k48 H49=>F (D k48)<|Z H49 xE fun r58 _ H50=>F (D k48)<|fZ H50 en_149 (aS (aD c k48)<|aS c bR) c fun r59 _ H51=>F (D k48)<|R (cr c)<|p (aT c k48 c)<|J c<|V c c (aB _) (fun g52=>wv<|ah c)<|bS H51 (fun k54 H55=>F (D k54)<|gf H55 (ge (vs:=[]) (aD c k54) c) c fun v64 _ H56=>F (D k54)<|aR H56 (gw c c) c fun v65 _ H57=>p (aT c k54 c)<|J c<|bS H57 (fun k59 H60=>F (D k59)<|Z H60 xE fun r68 _ H61=>F (D k59)<|aR H61 (gw c c) c fun v69 _ H62=>p (aT c k59 c)<|O c<|aj<|Y ⟨v69,c,H62⟩) fun k59 H60=>W (aU k59)<|W (aU k59)<|p (aq c k59 c)<|O c<|aj<|Y ⟨false,c,H60⟩) fun k54 H55=>W (aU k54)<|W (aU k54)<|p (aq c k54 c)<|J c<|W c<|W c<|p (aq c c c)<|O c<|aj<|Y ⟨false,c,H55⟩) fun k48 H49=>W (aU k48)<|W (aU k48)<|W (aU k48)<|p (aq c k48 c)<|J c<|W c<|W c<|W c<|p (aq c c c)<|J c<|W c<|W c<|p (aq c c c)<|O c<|aj<|Y ⟨false,c,H49⟩) fun k42 H43=>W (aU k42)<|W (aU k42)<|p (aq c k42 c)<|J c<|W c<|W c<|W c<|W c<|p (aq c c c)<|J c<|W c<|W c<|W c<|p (aq c c c)<|J c<|W c<|W c<|p (aq c c c)<|O c<|aj<|Y ⟨false,c,H43⟩) fun k37 H38=>W (aU k37)<|W (aU k37)<|p (aq c k37 c)<|J c<|W c<|W c<|W c<|p (aq c c c)<|J c<|W c<|W c<|W c<|W c<|p (aq c c c)<|J c<|W c<|W c<|W c<|p (aq c c c)<|J c<|W c<|W c<|p (aq c c c)<|O c<|aj<|Y ⟨false,c,H38⟩) fun k32 H33=>W (aU k32)<|W (aU k32)<|p (aq c k32 c)<|J c<|W c<|W c<|W c<|p (aq c c c)<|J c<|W c<|W c<|W c<|p (aq c c c)<|J c<|W c<|W c<|W c<|W c<|p (aq c c c)<|J c<|W c<|W c<|W c<|p (aq c c c)<|J c<|W c<|W c<|p (aq c c c)<|O c<|aj<|Y ⟨false,c,H33⟩) fun k27 H28=>W (aU k27)<|W (aU k27)<|p (aq c k27 c)<|J c<|W c<|W c<|W c<|p (aq c c c)<|J c<|W c<|W c<|W c<|p (aq c c c)<|J c<|W c<|W c<|W c<|p (aq c c c)<|J c<|W c<|W c<|W c<|W c<|p (aq c c c)<|J c<|W c<|W c<|W c<|p (aq c c c)<|J c<|W c<|W c<|p (aq c c c)<|O c<|aj<|Y ⟨false,c,H28⟩) fun k20 H21=>W (aU k20)<|W (aU k20)<|W (aU k20)<|p (aq c k20 c)<|J c<|W c<|W c<|W c<|W c<|W c<|p (aq c c c)<|J c<|W c<|W c<|W c<|p (aq c c c)<|J c<|W c<|W c<|W c<|p (aq c c c)<|J c<|W c<|W c<|W c<|p (aq c c c)<|J c<|W c<|W c<|W c<|W c<|p (aq c c c)<|J c<|W c<|W c<|W c<|p (aq c c c)<|J c<|W c<|W c<|p (aq c c c)<|O c<|aj<|Y ⟨false,c,H21⟩) fun k11 H12=>W (aU k11)<|W (aU k11)<|W (aU k11)<|W (aU k11)<|p (aq c k11 c)<|J c<|W c<|W c<|W c<|W c<|W c<|W c<|p (aq c c c)<|J c<|W c<|W c<|W c<|W c<|W c<|p (aq c c c)<|J c<|W c<|W c<|W c<|p (aq c c c)<|J c<|W c<|W c<|W c<|p (aq c c c)<|J c<|W c<|W c<|W c<|p (aq c c c)<|J c<|W c<|W c<|W c<|W c<|p (aq c c c)<|J c<|W c<|W c<|W c<|p (aq c c c)<|J c<|W c<|W c<|p (aq c c c)<|O c<|aj<|Y ⟨false,c,H12⟩
def pG (K:Bool->Hp->Prop):Hp->Prop:=cl prog lC [] aC fun r1=>K r1
theorem wN {K:Bool->Hp->Prop} {h:Hp} (H:pG K h):Ct prog lD #[] h fun v h'=>∃ r,v = aC r/\K r h':=ay [] func213 c c c fun _=>M<|O c<|M<|aa<|Z H en_223 fun r1 _ H1=>O c<|aj<|Y ⟨r1,c,H1⟩
end
section
open Go Mb
variable {ET:Nat} {EF:Nat × Nat}
abbrev s3_:ByteArray:=⟨#[51]⟩
theorem sp_small3:Sp prog jj [.int .i64 3] dR [] (fun r=>pa_ (r = s3_) []):=by
 intro h st
 refine sO _ ?_
 unfold mw
 exact dL rfl (eF s3_ (fun K h=>by kernel_rfl) (aX rfl st))
theorem sp_FormatInt3:Sp prog gG [.int .i64 3,.int .i64 10] dR [] (fun r=>pa_ (r = s3_) []):=by
 intro h st
 refine pZ _ _ ?_
 unfold jN
 refine dL rfl (dL rfl (tL sp_small3 st fun r h' hr s2=>?_))
 exact aX hr s2
theorem sp_Itoa3':Sp prog jA [.int .i64 3] dR [] (fun r=>pa_ (r = s3_) []):=by
 intro h st
 refine tK _ ?_
 unfold mV
 exact tL sp_FormatInt3 st fun r h' hr s2=>aX hr s2
theorem sp_Itoa3:Sp prog tf [.int .i64 3] dR [] (fun r=>pa_ (r = s3_) []):=by
 intro h st
 refine sim_strconv_Itoa _ ?_
 unfold sh_strconv_Itoa
 exact tL sp_Itoa3' st fun r h' hr s2=>aX hr s2
abbrev t3_:ByteArray:=⟨#[116,114,97,112,32,51]⟩
theorem sp_Error1 (b:Nat) (t:bZ) (hc:t.fDb = 3) (ht:t.fWa = Value.nilIface):Sp prog iS [pv (some (b,0))] dR [trB b t] (fun r=>pa_ (r = t3_) [trB b t]):=by
 intro h st
 refine rz _ ?_
 unfold np
 refine dn rfl (cD ?_)
 refine bk t.fDb st (i:=0) rfl rfl rfl ?_
 rw [hc]
 refine tL sp_Itoa3 st fun r h' hr s2=>?_
 subst hr
 refine eF t3_ (fun K h=>by kernel_rfl) ?_
 refine bk t.fWa s2 (i:=0) rfl rfl rfl ?_
 rw [ht]
 refine eF false (fun K h=>by kernel_rfl) (dn rfl ?_)
 exact aX rfl s2
theorem sp_Error2 (b e:Nat) (t u:bZ) (hc:t.fDb = 3) (ht:t.fWa = du e) (hd:u.fDb = 3) (hu:u.fWa = Value.nilIface):Sp prog iS [pv (some (b,0))] dR [trB b t,trB e u] (fun r=>pa_ (r = oo) [trB b t,trB e u]):=by
 intro h st
 refine rz _ ?_
 unfold np
 refine dn rfl (cD ?_)
 refine bk t.fDb st (i:=0) rfl rfl rfl ?_
 rw [hc]
 refine tL sp_Itoa3 st fun r h' hr s2=>?_
 subst hr
 refine eF t3_ (fun K h=>by kernel_rfl) ?_
 refine bk t.fWa s2 (i:=0) rfl rfl rfl ?_
 rw [ht]
 refine eF true (fun K h=>by kernel_rfl) (dL rfl ?_)
 refine bk t.fWa s2 (i:=0) rfl rfl rfl ?_
 rw [ht]
 refine cln_en (f:=iS) (vs:=[pv (some (e,0))]) (fun K h=>by kernel_rfl) ?_
 refine bP (i:=1) (sp_Error1 e u hd hu) rfl s2 fun r h' hr s3=>?_
 subst hr
 refine eF ⟨#[58,32,116,114,97,112,32,51]⟩ (fun K h=>by kernel_rfl) ?_
 refine eF oo (fun K h=>by kernel_rfl) ?_
 exact aX rfl s3
theorem star_ne {b d:Nat} {T T':TypeId} {c c':List Value} {l:List As} {h:Hp} (s:aF (blk b T c::blk d T' c'::l) h):b ≠ d:=by
 obtain ⟨h1,h2,dj,e,a,h3,h4,dj2,e2,a2,_⟩:=s
 rintro rfl
 have h1b:h1 b = some _:=a
 have h3b:h3 b = some _:=a2
 rcases dj b with x | x
 ·rw [h1b] at x; cases x
 ·rw [e2,un_left h3b] at x; cases x
theorem sp_Trap_Is (b d:Nat) (t w:bZ):Sp prog td [pv (some (b,0)),du d] aC [trB b t,trB d w] (fun r=>pa_ (r = (t.fDb == w.fDb)) [trB b t,trB d w]):=by
 intro h st
 refine sim_trap_Trap_Is _ _ ?_
 unfold sh_trap_Trap_Is
 refine eF (some (d,0),true) (fun K h=>by kernel_rfl) (dL rfl (dL rfl (dL rfl (cD (cD ?_)))))
 refine bk t.fDb st (i:=0) rfl rfl rfl ?_
 refine bk w.fDb st (i:=1) rfl rfl rfl ?_
 exact aX rfl st
theorem sp_Unwrap (b:Nat) (t:bZ):Sp prog nr [pv (some (b,0))] encV [trB b t] (fun r=>pa_ (r = t.fWa) [trB b t]):=by
 intro h st
 refine sim_trap_Trap_Unwrap _ ?_
 unfold rA
 refine dn rfl (cD ?_)
 refine bk t.fWa st (i:=0) rfl rfl rfl ?_
 exact aX rfl st
theorem eq_traps {K:Bool->Hp->Prop} {a b n m:Nat} {t u:bZ} {l:List As} {h:Hp} (s:aF (trB a t::trB b u::l) h) (k:K false h):hpv prog (do eqGuard .eql 199 (.tmp n) (.tmp m) (du a) (du b); binOp .eql 199 (du a) (du b):Sem Value) aC K h:=by
 obtain ⟨g1,a1,sub1⟩:=dH (l:=trB a t::trB b u::l) (A:=trB a t) (i:=0) (by rfl) s
 obtain ⟨g2,a2,sub2⟩:=dH (l:=trB a t::trB b u::l) (A:=trB b u) (i:=1) (by rfl) s
 have q1:h a = some (.cells (bZ.C t).toArray nG (0,0)):=sub1 _ _ a1
 have q2:h b = some (.cells (bZ.C u).toArray nG (0,0)):=sub2 _ _ a2
 have hne:=star_ne s
 have e:(a == b) = false:=by simpa using hne
 constructor
 rw [y6,cT]
 refine x25 _ _ q1 q2 ?_
 rw [e]
 exact ⟨false,rfl,k⟩
theorem is_step {b d:Nat} {t w:bZ} {l:List As} {h:Hp} {K:Bool->Hp->Prop} {Rec:Value->Hp->Prop} (st:aF (trB b t::trB d w::l) h)
  (h1:t.fDb = w.fDb->∀ h',aF (trB b t::trB d w::l) h'->K true h') (h0:t.fDb ≠ w.fDb->t.fWa = .nilIface->∀ h',aF (trB b t::trB d w::l) h'->K false h')
  (h2:t.fDb ≠ w.fDb->∀ e,t.fWa = du e->∀ h',aF (trB b t::trB d w::l) h'->Rec (du e) h') (hok:t.fWa = .nilIface\/∃ e,t.fWa = du e):sn (du d) true K Rec (du b) h:=by
 unfold sn
 refine dL rfl (eq_traps st (dn rfl ?_))
 refine eF (du b,true) (fun K h=>by kernel_rfl) (dL rfl ?_)
 refine cln_en (f:=td) (vs:=[pv (some (b,0)),du d]) (fun K h=>by kernel_rfl) ?_
 refine cQ [] (rest:=l) (sp_Trap_Is b d t w) st rfl fun r h' s2=>?_
 obtain ⟨rfl,s3⟩:=bt.1 s2
 by_cases e:t.fDb = w.fDb
 ·exact dL (by simpa using e) (h1 e _ s3)
 ·refine dn (by simpa using e) ?_
  unfold so
  refine eF (du b,true) (fun K h=>by kernel_rfl) (dL rfl ?_)
  refine cln_en (f:=nr) (vs:=[pv (some (b,0))]) (fun K h=>by kernel_rfl) ?_
  refine bP (i:=0) (sp_Unwrap b t) rfl s3 fun r h' hr s4=>?_
  subst hr
  rcases hok with hn | ⟨x,hx⟩
  ·rw [hn]
   refine eF true (en_00 _) (dL rfl (h0 e hn _ ?_))
   simpa using s4
  ·rw [hx]
   refine eF false (en_0 x _) (dn rfl (h2 e x hx _ ?_))
   simpa using s4
theorem sp_is1 (b d:Nat) (t w:bZ) (hc:t.fDb = w.fDb) (hok:t.fWa = .nilIface\/∃ e,t.fWa = du e):Sp prog nP [du b,du d,.bool true] aC [trB b t,trB d w] (fun r=>pa_ (r = true) [trB b t,trB d w]):=by
 intro h st
 refine sim_errors_is _ _ _ ?_
 unfold wU
 refine ⟨fun s h=>s = du b/\aF [trB b t,trB d w] h,fun _ _=>0,⟨rfl,st⟩,?_⟩
 rintro _ h1 ⟨rfl,s1⟩
 exact is_step s1 (fun _ h' s2=>aX rfl s2) (fun e=>absurd hc e) (fun e=>absurd hc e) hok
theorem sp_is2 (b e d:Nat) (t u w:bZ) (ht:t.fWa = du e) (hu:u.fWa = .nilIface) (hc:t.fDb ≠ w.fDb) (hd:u.fDb ≠ w.fDb) :
  Sp prog nP [du b,du d,.bool true] aC [trB b t,trB e u,trB d w] (fun r=>pa_ (r = false) [trB b t,trB e u,trB d w]):=by
 intro h st
 refine sim_errors_is _ _ _ ?_
 unfold wU
 refine ⟨fun s h=>(s = du b\/s = du e)/\aF [trB b t,trB e u,trB d w] h,fun s _=>match s with | .iface _ (.pointer (some p))=>if p.block = b then 1 else 0 | _=>0,⟨.inl rfl,st⟩,?_⟩
 have hne:e ≠ b:=fun h=>(star_ne st) h.symm
 rintro _ h1 ⟨rfl | rfl,s1⟩
 ·refine is_step (l:=[trB e u]) (bd [0,1] s1 rfl) (fun x=>absurd x hc) (fun _ x=>by rw [ht] at x; cases x) (fun _ x hx h' s2=>?_) (.inr ⟨e,ht⟩)
  rw [ht] at hx
  rw [← hx]
  exact ⟨⟨.inr rfl,bd [0,1] s2 rfl⟩,by show (if e = b then 1 else 0) < (if b = b then 1 else 0); rw [if_pos rfl,if_neg hne]; exact Nat.one_pos⟩
 ·refine is_step (l:=[trB b t]) (bd [1,1] s1 rfl) (fun x=>absurd x hd) (fun _ _ h' s2=>aX rfl (bd [2,0] s2 rfl)) (fun _ x hx=>by rw [hu] at hx; cases hx) (.inl hu)
theorem sp_Is1 (b d:Nat) (t w:bZ) (hc:t.fDb = w.fDb) (hok:t.fWa = .nilIface\/∃ e,t.fWa = du e):Sp prog nQ [du b,du d] aC [trB b t,trB d w] (fun r=>pa_ (r = true) [trB b t,trB d w]):=by
 intro h st
 refine sim_errors_Is _ _ ?_
 unfold wV
 refine eF false (en_0 b _) (dL rfl (eF false (en_0 d _) (dn rfl ?_)))
 refine tD (rtV bg) (fun K h=>x7 d K h) ?_
 refine tD true (fun K h=>x13 K h) ?_
 refine cQ [] (rest:=[]) (sp_is1 b d t w hc hok) st rfl fun r h' s2=>?_
 obtain ⟨rfl,s3⟩:=bt.1 s2
 exact aX rfl s3
theorem sp_Is2 (b e d:Nat) (t u w:bZ) (ht:t.fWa = du e) (hu:u.fWa = .nilIface) (hc:t.fDb ≠ w.fDb) (hd:u.fDb ≠ w.fDb) :
  Sp prog nQ [du b,du d] aC [trB b t,trB e u,trB d w] (fun r=>pa_ (r = false) [trB b t,trB e u,trB d w]):=by
 intro h st
 refine sim_errors_Is _ _ ?_
 unfold wV
 refine eF false (en_0 b _) (dL rfl (eF false (en_0 d _) (dn rfl ?_)))
 refine tD (rtV bg) (fun K h=>x7 d K h) ?_
 refine tD true (fun K h=>x13 K h) ?_
 refine cQ [] (rest:=[]) (sp_is2 b e d t u w ht hu hc hd) st rfl fun r h' s2=>?_
 obtain ⟨rfl,s3⟩:=bt.1 s2
 exact aX rfl s3
theorem uD {α:Type} {A:α->As} {l:List As} {h:Hp} (s:aF (ex A::l) h):∃ x,aF (A x::l) h:=by
 obtain ⟨h1,h2,d,e,⟨x,a⟩,s2⟩:=s
 exact ⟨x,h1,h2,d,e,a,s2⟩
abbrev tr3:bZ:=⟨3,-1,⟨0,0,0,0,0⟩,.nilIface⟩
abbrev tr4:bZ:=⟨4,-1,⟨0,0,0,0,0⟩,.nilIface⟩
abbrev tr32 (e:Nat):bZ:=⟨3,2,⟨1,2,0,0,0⟩,du e⟩
theorem sp_begun1:Sp prog lC [] aC [(etB ET EF)] (fun r=>pa_ (r = true) [(etB ET EF)]):=by
 intro h st
 refine wM ?_
 unfold pF
 refine cQ [] (rest:=[(etB ET EF)]) (sp_Of 3 (by decide)) st rfl fun r h1 s1=>?_
 obtain ⟨e,x1⟩:=uD s1
 obtain ⟨rfl,y1⟩:=bt.1 x1
 refine cQ [1,0] (rest:=[]) (sp_In 2 ⟨1,2,0,0,0⟩ e tr3) y1 rfl fun r h2 s2=>?_
 obtain ⟨b,x2⟩:=uD s2
 obtain ⟨rfl,y2⟩:=bt.1 x2
 refine bP (i:=1) (sp_First b) rfl y2 fun r h3 hr s3=>?_
 subst hr
 refine eF false (en_0 b _) (dn rfl (dL rfl (cD ?_)))
 refine bk 2 s3 (i:=0) rfl rfl rfl (dL rfl ?_)
 refine ld_s ⟨1,2,0,0,0⟩ s3 (i:=0) rfl (fun j v hj=>?_) (dL rfl ?_)
 ·rcases j with _ | _ | _ | _ | _ | j <;> first | exact hj | (simp [ai.C] at hj)
 refine bk 3 s3 (i:=0) rfl rfl rfl (dL rfl ?_)
 refine cQ [1,0] (rest:=[_]) (sp_Code b (tr32 e)) s3 rfl fun r h4 s4=>?_
 obtain ⟨rfl,y4⟩:=bt.1 s4
 refine dL rfl ?_
 refine cQ [] (rest:=[]) (sp_Depth2 b e (tr32 e) tr3 rfl rfl) y4 rfl fun r h5 s5=>?_
 obtain ⟨rfl,y5⟩:=bt.1 s5
 refine dL rfl ?_
 refine cQ [] (rest:=[_,_,_]) (sp_Of 3 (by decide)) y5 rfl fun r h6 s6=>?_
 obtain ⟨d,x6⟩:=uD s6
 obtain ⟨rfl,y6⟩:=bt.1 x6
 refine cQ [2,0] (rest:=[_,_]) (sp_Is1 b d (tr32 e) tr3 rfl (.inr ⟨e,rfl⟩)) y6 rfl fun r h7 s7=>?_
 obtain ⟨rfl,y7⟩:=bt.1 s7
 refine dL rfl ?_
 refine cQ [] (rest:=[_,_,_,_]) (sp_Of 4 (by decide)) y7 rfl fun r h8 s8=>?_
 obtain ⟨f,x8⟩:=uD s8
 obtain ⟨rfl,y8⟩:=bt.1 x8
 refine cQ [1,3,0] (rest:=[_,_]) (sp_Is2 b e f (tr32 e) tr3 tr4 rfl rfl (show (3:Int) ≠ 4 by decide) (show (3:Int) ≠ 4 by decide)) y8 rfl fun r h9 s9=>?_
 obtain ⟨rfl,y9⟩:=bt.1 s9
 refine dL rfl ?_
 refine cln_en (f:=iS) (vs:=[pv (some (b,0))]) (fun K h=>by kernel_rfl) ?_
 refine cQ [] (rest:=[_,_,_]) (sp_Error2 b e (tr32 e) tr3 rfl rfl rfl rfl) y9 rfl fun r h10 s10=>?_
 obtain ⟨rfl,y10⟩:=bt.1 s10
 refine eF true (fun K h=>by kernel_rfl) (dL rfl ?_)
 refine tL sp_Of0 y10 fun r h11 hr s11=>?_
 subst hr
 refine eF true (en_00 _) ?_
 exact aX rfl (ce (l:=[_,_,_,_]) s11)
end
section
open Go Mb
set_option linter.unusedVariables false
def sh_cell_New (a0:Int) (K:Ptr->Hp->Prop):Hp->Prop:=nw qE (oa.C (⟨a0,0⟩:oa)) fun b5=>K (some (b5,0))
theorem sim_cell_New (a0:Int) {K:Ptr->Hp->Prop} {h:Hp} (H:sh_cell_New a0 K h):Ct prog tk #[(.int .u64 a0)] h fun v h'=>∃ r,v = pn r/\K r h':=ay [(.int .u64 a0)] func209 c c c fun _=>M<|O c<|M<|J c<|p (ba c<|build_285_0 a0)<|aa<|hY c c c H fun b5 _ H1=>O c<|aj<|Y ⟨some (b5,0),c,H1⟩
def sh_cell_Cell_Up (a0:Ptr) (a1:Int) (K:(Int × Bool)->Hp->Prop):Hp->Prop:=br a0.isNone ( K (0,false)) ( nn a0 fun q9=>ld (q9.1,q9.2 + 1) (cI .i64) fun x11=>st (q9.1,q9.2 + 1) [.int .i64 (IntKind.i64.wrap (x11 + 1))]<|ld (q9.1,q9.2 + 0) (cI .u64) fun x18=>br (decide (x18 >= a1)) ( ld (q9.1,q9.2 + 0) (cI .u64) fun x24=>K (x24,false)) ( ld (q9.1,q9.2 + 0) (cI .u64) fun x28=>st (q9.1,q9.2 + 0) [.int .u64 (IntKind.u64.wrap (x28 + 1))]<|ld (q9.1,q9.2 + 0) (cI .u64) fun x35=>K (x35,true)))
theorem sim_cell_Cell_Up (a0:Ptr) (a1:Int) {K:(Int × Bool)->Hp->Prop} {h:Hp} (H:sh_cell_Cell_Up a0 a1 K h):Ct prog oU #[(pv a0),(.int .u64 a1)] h fun v h'=>∃ r,v = bK r/\K r h':=ay [(pv a0),(.int .u64 a1)] func211 c c c fun _=>M<|p (au c)<|O c<|al<|M<|J c<|p (cq underlying266 c)<|ad<|aw c H (fun k1 H2=>M<|p (au c)<|O c<|aj<|bv (bN c (cc c)<|cc c) ⟨(0,false),c,H2⟩) fun k1 H2=>ao<|M<|J c<|bG H2 fun q9 e3 H4=>p (aJ<|aN c<|ar e3)<|p (ae sF c)<|aa<|aW H4 aZ c (fun _=>c) c fun x11 H5=>p (bo c c)<|p (aJ<|aN c<|ar e3)<|p (ae sF c)<|aa<|dw qU c c c c c H5 fun _ H6=>ad<|al<|M<|J (aN c<|ar e3)<|p (aJ c)<|p (ae nV c)<|aa<|aW H6 cy c (fun _=>c) c fun x18 H7=>J c<|p (jJ c c)<|ad<|aw c H7 (fun k8 H9=>M<|J (aN c<|ar e3)<|p (aJ c)<|p (ae nV c)<|aa<|aW H9 cy c (fun _=>c) c fun x24 H10=>p (au c)<|O c<|aj<|bv (bN c (cc c)<|cc c) ⟨(x24,false),c,H10⟩) fun k8 H9=>ao<|M<|J (aN c<|ar e3)<|p (aJ c)<|p (ae nV c)<|aa<|aW H9 cy c (fun _=>c) c fun x28 H11=>p (bo c c)<|p (aJ c)<|p (ae nV c)<|aa<|dw inf_22 c c c c c H11 fun _ H12=>ad<|M<|J (aN c<|ar e3)<|p (aJ c)<|p (ae nV c)<|aa<|aW H12 cy c (fun _=>c) c fun x35 H13=>p (au c)<|O c<|aj<|bv (bN c (cc c)<|cc c) ⟨(x35,true),c,H13⟩
def uk (a0:Ptr) (K:Int->Hp->Prop):Hp->Prop:=br a0.isNone ( K 0) ( nn a0 fun q6=>ld (q6.1,q6.2 + 1) (cI .i64) fun x8=>st (q6.1,q6.2 + 1) [.int .i64 (IntKind.i64.wrap (x8 + 1))]<|ld (q6.1,q6.2 + 0) (cI .u64) fun x15=>K x15)
theorem sim_cell_Cell_Load (a0:Ptr) {K:Int->Hp->Prop} {h:Hp} (H:uk a0 K h):Ct prog mg #[(pv a0)] h fun v h'=>∃ r,v = gO r/\K r h':=ay [(pv a0)] func224 c c c fun _=>M<|O c<|al<|M<|J c<|p (cq underlying266 c)<|ad<|aw c H (fun k1 H2=>M<|O c<|aj<|Y ⟨0,c,H2⟩) fun k1 H2=>ao<|M<|J c<|bG H2 fun q6 e3 H4=>p (aJ<|aN c<|ar e3)<|p (ae sF c)<|aa<|aW H4 aZ c (fun _=>c) c fun x8 H5=>p (bo c c)<|p (aJ<|aN c<|ar e3)<|p (ae sF c)<|aa<|dw qU c c c c c H5 fun _ H6=>ad<|M<|J (aN c<|ar e3)<|p (aJ c)<|p (ae nV c)<|aa<|aW H6 cy c (fun _=>c) c fun x15 H7=>O c<|aj<|Y ⟨x15,c,H7⟩
def vC (a0:Ptr) (a1:Int) (a2:Int) (K:Bool->Hp->Prop):Hp->Prop:=br a0.isNone ( K false) ( nn a0 fun q10=>ld (q10.1,q10.2 + 1) (cI .i64) fun x12=>st (q10.1,q10.2 + 1) [.int .i64 (IntKind.i64.wrap (x12 + 1))]<|ld (q10.1,q10.2 + 0) (cI .u64) fun x19=>br (x19 != a1) ( K false) ( st (q10.1,q10.2 + 0) [.int .u64 a2]<|K true))
theorem sim_cell_Cell_Cas (a0:Ptr) (a1:Int) (a2:Int) {K:Bool->Hp->Prop} {h:Hp} (H:vC a0 a1 a2 K h):Ct prog rq #[(pv a0),(.int .u64 a1),(.int .u64 a2)] h fun v h'=>∃ r,v = aC r/\K r h':=ay [(pv a0),(.int .u64 a1),(.int .u64 a2)] func225 c c c fun _=>M<|O c<|al<|M<|J c<|p (cq underlying266 c)<|ad<|aw c H (fun k1 H2=>M<|O c<|aj<|Y ⟨false,c,H2⟩) fun k1 H2=>ao<|M<|J c<|bG H2 fun q10 e3 H4=>p (aJ<|aN c<|ar e3)<|p (ae sF c)<|aa<|aW H4 aZ c (fun _=>c) c fun x12 H5=>p (bo c c)<|p (aJ<|aN c<|ar e3)<|p (ae sF c)<|aa<|dw qU c c c c c H5 fun _ H6=>ad<|al<|M<|J (aN c<|ar e3)<|p (aJ c)<|p (ae nV c)<|aa<|aW H6 cy c (fun _=>c) c fun x19 H7=>J c<|p (pt c c)<|ad<|aw c H7 (fun k8 H9=>M<|O c<|aj<|Y ⟨false,c,H9⟩) fun k8 H9=>ao<|M<|J (aN c<|ar e3)<|J c<|p (aJ c)<|p (ae nV c)<|aa<|dw inf_22 c c c c c H9 fun _ H10=>ad<|M<|O c<|aj<|Y ⟨true,c,H10⟩
end
section
open Go Mb
set_option linter.unusedVariables false
def sh_ticket_New (K:Ptr->Hp->Prop):Hp->Prop:=cl prog tk [(.int .u64 0)] pn fun r1=>cl prog tk [(.int .u64 0)] pn fun r2=>nw mR (kD.C (⟨r1,r2⟩:kD)) fun b4=>K (some (b4,0))
theorem sim_ticket_New {K:Ptr->Hp->Prop} {h:Hp} (H:sh_ticket_New K h):Ct prog xh #[] h fun v h'=>∃ r,v = tI r/\K r h':=ay [] func210 c c c fun _=>M<|O c<|M<|aa<|Z H en_209 fun r1 _ H1=>aa<|Z H1 en_209 fun r2 _ H2=>p (ba c<|build_287_0_1 r1 r2)<|aa<|hY c c c H2 fun b4 _ H3=>O c<|aj<|Y ⟨some (b4,0),c,H3⟩
def rD (a0:Ptr) (K:Int->Hp->Prop):Hp->Prop:=br a0.isNone ( K 0) ( nn a0 fun q9=>ld (q9.1,q9.2 + 0) cP fun x11=>cl prog oU [(pv x11),(.int .u64 18446744073709551615)] bK fun r12=>K (IntKind.u64.wrap (r12.1 - 1)))
theorem sim_ticket_Lock_Draw (a0:Ptr) {K:Int->Hp->Prop} {h:Hp} (H:rD a0 K h):Ct prog nt #[(pv a0)] h fun v h'=>∃ r,v = gO r/\K r h':=ay [(pv a0)] func212 c c c fun _=>M<|O c<|al<|M<|J c<|p (cq underlying268 c)<|ad<|aw c H (fun k1 H2=>M<|O c<|aj<|Y ⟨0,c,H2⟩) fun k1 H2=>ao<|M<|J c<|bG H2 fun q9 e3 H4=>p (aJ<|aN c<|ar e3)<|p (ae fld_287_0 c)<|aa<|aW H4 sc_266 c (fun _=>c) c fun x11 H5=>aa<|Z H5 en_211 fun r12 _ H6=>J c<|p (ak c c)<|p (ak c c)<|p (au c)<|O c<|M<|J c<|p (v_sub c c)<|O c<|aj<|Y ⟨IntKind.u64.wrap (r12.1 - 1),c,H6⟩
def rB (a0:Ptr) (a1:Int) (K:Bool->Hp->Prop):Hp->Prop:=br (!a0.isNone) ( nn a0 fun q9=>ld (q9.1,q9.2 + 1) cP fun x11=>cl prog mg [(pv x11)] gO fun r12=>br (r12 == a1) ( ld (q9.1,q9.2 + 0) cP fun x21=>cl prog mg [(pv x21)] gO fun r22=>K (decide (a1 < r22))) ( K false)) ( K false)
theorem sim_ticket_Lock_Turn (a0:Ptr) (a1:Int) {K:Bool->Hp->Prop} {h:Hp} (H:rB a0 a1 K h):Ct prog jU #[(pv a0),(.int .u64 a1)] h fun v h'=>∃ r,v = aC r/\K r h':=ay [(pv a0),(.int .u64 a1)] func214 c c c fun _=>M<|O c<|M<|J c<|p (v_pneT underlying268 c)<|J c<|V c c (aB _) (fun g1=>wv<|ah c)<|bS H (fun k3 H4=>bG H4 fun q9 e5 H6=>F (D k3)<|R (aJ<|aN (aD c k3)<|ar e5)<|F (D k3)<|R (ae fld_287_1 c)<|F (D k3)<|aW H6 sc_266 c (fun _=>c) c fun x11 H7=>F (D k3)<|Z H7 en_224 fun r12 _ H8=>F (D k3)<|R (ah c)<|F (D k3)<|R (bQ c c)<|p (aT c k3 c)<|J c<|V c c (aB _) (fun g9=>wv<|ah c)<|V c c (aB _) (fun g10=>wv<|ah<|aN c<|ar e5)<|V c c (aB _) (fun g11=>wv<|aJ<|aD c g11)<|V c c (aB _) (fun g12=>wv<|ae fld_287_0<|aD c g12)<|bS H8 (fun k14 H15=>F (D k14)<|aW H15 sc_266 (aD c k14) (fun _=>c) c fun x21 H16=>F (D k14)<|Z H16 en_224 fun r22 _ H17=>F (D k14)<|R (cx (aD c k14) c)<|p (aT c k14 c)<|O c<|aj<|Y ⟨decide (a1 < r22),c,H17⟩) fun k14 H15=>W (aU k14)<|W (aU k14)<|W (aU k14)<|p (aq c k14 c)<|O c<|aj<|Y ⟨false,c,H15⟩) fun k3 H4=>W (aU k3)<|W (aU k3)<|W (aU k3)<|W (aU k3)<|W (aU k3)<|W (aU k3)<|p (aq c k3 c)<|J c<|W c<|W c<|W c<|W c<|W c<|W c<|W c<|p (aq c c c)<|O c<|aj<|Y ⟨false,c,H4⟩
def rC (a0:Ptr) (a1:Int) (K:Bool->Hp->Prop):Hp->Prop:=cl prog jU [(pv a0),(.int .u64 a1)] aC fun r7=>br r7 ( nn a0 fun q10=>ld (q10.1,q10.2 + 1) cP fun x12=>cl prog rq [(pv x12),(.int .u64 a1),(.int .u64 (IntKind.u64.wrap (a1 + 1)))] aC fun r16=>K r16) ( K false)
theorem sim_ticket_Lock_Pass (a0:Ptr) (a1:Int) {K:Bool->Hp->Prop} {h:Hp} (H:rC a0 a1 K h):Ct prog ns #[(pv a0),(.int .u64 a1)] h fun v h'=>∃ r,v = aC r/\K r h':=ay [(pv a0),(.int .u64 a1)] func215 c c c fun _=>M<|O c<|M<|J c<|J c<|aa<|Z H en_214 fun r7 _ H1=>J c<|V c c (aB _) (fun g2=>wv<|ah c)<|bS H1 (fun k4 H5=>bG H5 fun q10 e6 H7=>F (D k4)<|R (aJ<|aN (aD c k4)<|ar e6)<|F (D k4)<|R (ae fld_287_1 c)<|F (D k4)<|aW H7 sc_266 c (fun _=>c) c fun x12 H8=>F (D k4)<|R (ah c)<|F (D k4)<|R (ah c)<|F (D k4)<|R (bo c c)<|F (D k4)<|Z H8 en_225 fun r16 _ H9=>p (aT c k4 c)<|O c<|aj<|Y ⟨r16,c,H9⟩) fun k4 H5=>W (aU k4)<|W (aU k4)<|W (aU k4)<|W (aU k4)<|W (aU k4)<|W (aU k4)<|W (aU k4)<|p (aq c k4 c)<|O c<|aj<|Y ⟨false,c,H5⟩
end
section
open Go Mb
def kN (x:Ptr) (c:Int × Int):As:=fun h=>∃ b:Nat,(x = some (b,0))/\aF [blk b qE [.int .u64 c.1,.int .i64 c.2]] h
theorem cell_op {x:Ptr} {c:Int × Int} {l:List As} {h:Hp} (s0:aF (kN x c::l) h):∃ b,x = some (b,0)/\aF (blk b qE [.int .u64 c.1,.int .i64 c.2]::l) h:=by
 obtain ⟨b,hx,st⟩:=op_ s0
 exact ⟨b,hx,st⟩
theorem cell_cl {b:Nat} {v n:Int} {l:List As} {h:Hp} (st:aF (blk b qE [.int .u64 v,.int .i64 n]::l) h):aF (kN (some (b,0)) (v,n)::l) h:=cl_ (m:=fun b=>[blk b qE [.int .u64 (v,n).1,.int .i64 (v,n).2]]) b rfl st
namespace Cell
def tick (c:Int × Int):Int × Int:=(c.1,IntKind.i64.wrap (c.2 + 1))
def cas (c:Int × Int) (o v:Int):Bool × Int × Int:=if c.1 = o then (true,v,(tick c).2) else (false,tick c)
def up (c:Int × Int) (m:Int):(Int × Bool) × Int × Int:=if c.1 >= m then ((c.1,false),tick c) else ((IntKind.u64.wrap (c.1 + 1),true),(IntKind.u64.wrap (c.1 + 1),(tick c).2))
end Cell
theorem sp_cell_New (v:Int):Sp prog tk [.int .u64 v] pn [] (fun r=>aF [kN r (v,0)]):=by
 intro h st
 refine sim_cell_New _ ?_
 unfold sh_cell_New
 exact pw st fun b h' s1=>cell_cl s1
theorem sp_cell_Load (x:Ptr) (c:Int × Int):Sp prog mg [pv x] gO [kN x c] (fun r=>pa_ (r = c.1) [kN x (Cell.tick c)]):=by
 intro h s0
 obtain ⟨b,rfl,st⟩:=cell_op s0
 refine sim_cell_Cell_Load _ ?_
 unfold uk
 refine dn rfl (cD ?_)
 refine bk c.2 st (i:=0) rfl rfl rfl ?_
 refine uL (i:=0) st rfl (Nat.le_refl _) fun h2 s2=>?_
 refine bk c.1 s2 (i:=0) rfl rfl rfl ?_
 exact aX rfl (cell_cl s2)
theorem sp_cell_Cas (x:Ptr) (c:Int × Int) (o v:Int):Sp prog rq [pv x,.int .u64 o,.int .u64 v] aC [kN x c] (fun r=>pa_ (r = (Cell.cas c o v).1) [kN x (Cell.cas c o v).2]):=by
 intro h s0
 obtain ⟨b,rfl,st⟩:=cell_op s0
 refine sim_cell_Cell_Cas _ _ _ ?_
 unfold vC
 refine dn rfl (cD ?_)
 refine bk c.2 st (i:=0) rfl rfl rfl ?_
 refine uL (i:=0) st rfl (Nat.le_refl _) fun h2 s2=>?_
 refine bk c.1 s2 (i:=0) rfl rfl rfl ?_
 refine aY (fun k=>?_) (fun k=>?_)
 ·have k':¬ c.1 = o:=by simpa using k
  have e:Cell.cas c o v = (false,Cell.tick c):=if_neg k'
  rw [e]
  exact aX rfl (cell_cl s2)
 ·have k':c.1 = o:=by simpa using k
  have e:Cell.cas c o v = (true,v,(Cell.tick c).2):=if_pos k'
  rw [e]
  refine uL (i:=0) s2 rfl (show 0 + 0 + 1 <= 2 by decide) fun h3 s3=>?_
  exact aX rfl (cell_cl s3)
theorem sp_cell_Up (x:Ptr) (c:Int × Int) (m:Int):Sp prog oU [pv x,.int .u64 m] bK [kN x c] (fun r=>pa_ (r = (Cell.up c m).1) [kN x (Cell.up c m).2]):=by
 intro h s0
 obtain ⟨b,rfl,st⟩:=cell_op s0
 refine sim_cell_Cell_Up _ _ ?_
 unfold sh_cell_Cell_Up
 refine dn rfl (cD ?_)
 refine bk c.2 st (i:=0) rfl rfl rfl ?_
 refine uL (i:=0) st rfl (Nat.le_refl _) fun h2 s2=>?_
 refine bk c.1 s2 (i:=0) rfl rfl rfl ?_
 refine aY (fun k=>?_) (fun k=>?_)
 ·have k':c.1 >= m:=by simpa using k
  have e:Cell.up c m = ((c.1,false),Cell.tick c):=if_pos k'
  rw [e]
  refine bk c.1 s2 (i:=0) rfl rfl rfl ?_
  exact aX rfl (cell_cl s2)
 ·have k':¬ c.1 >= m:=by simpa using k
  have e:Cell.up c m = ((IntKind.u64.wrap (c.1 + 1),true),(IntKind.u64.wrap (c.1 + 1),(Cell.tick c).2)):=if_neg k'
  rw [e]
  refine bk c.1 s2 (i:=0) rfl rfl rfl ?_
  refine uL (i:=0) s2 rfl (show 0 + 0 + 1 <= 2 by decide) fun h3 s3=>?_
  refine bk (IntKind.u64.wrap (c.1 + 1)) s3 (i:=0) rfl rfl rfl ?_
  exact aX rfl (cell_cl s3)
def uV (x:Ptr) (k:(Int × Int) × (Int × Int)):As:=fun h=>∃ bs:Nat × Ptr × Ptr,(x = some (bs.1,0))/\aF [blk bs.1 mR [pv bs.2.1,pv bs.2.2],kN bs.2.1 k.1,kN bs.2.2 k.2] h
theorem lock_op {x:Ptr} {k:(Int × Int) × (Int × Int)} {l:List As} {h:Hp} (s0:aF (uV x k::l) h):∃ b p q,x = some (b,0)/\aF (blk b mR [pv p,pv q]::kN p k.1::kN q k.2::l) h:=by
 obtain ⟨⟨b,p,q⟩,hx,st⟩:=op_ s0
 exact ⟨b,p,q,hx,st⟩
theorem lock_cl {b:Nat} {p q:Ptr} {k1 k2:Int × Int} {l:List As} {h:Hp} (st:aF (blk b mR [pv p,pv q]::kN p k1::kN q k2::l) h):aF (uV (some (b,0)) (k1,k2)::l) h :=
 cl_ (m:=fun bs:Nat × Ptr × Ptr=>[blk bs.1 mR [pv bs.2.1,pv bs.2.2],kN bs.2.1 (k1,k2).1,kN bs.2.2 (k1,k2).2]) (b,p,q) rfl st
namespace Lock
abbrev S:=(Int × Int) × (Int × Int)
def draw (k:S):Int × S:=(IntKind.u64.wrap ((Cell.up k.1 18446744073709551615).1.1 - 1),((Cell.up k.1 18446744073709551615).2,k.2))
def turn (k:S) (t:Int):Bool × S:=if k.2.1 = t then (decide (t < k.1.1),(Cell.tick k.1,Cell.tick k.2)) else (false,(k.1,Cell.tick k.2))
def pass (k:S) (t:Int):Bool × S:=if (turn k t).1 then ((Cell.cas (turn k t).2.2 t (IntKind.u64.wrap (t + 1))).1,((turn k t).2.1,(Cell.cas (turn k t).2.2 t (IntKind.u64.wrap (t + 1))).2)) else (false,(turn k t).2)
end Lock
theorem sp_ticket_New:Sp prog xh [] tI [] (fun r=>aF [uV r ((0,0),(0,0))]):=by
 intro h st
 refine sim_ticket_New ?_
 unfold sh_ticket_New
 refine cQ [] (sp_cell_New 0) st rfl fun p h1 s1=>?_
 refine cQ [] (sp_cell_New 0) (dB s1) rfl fun q h2 s2=>?_
 refine pw (dB s2) fun b h3 s3=>?_
 exact lock_cl (bd [0,1] s3 rfl)
theorem sp_ticket_Draw (x:Ptr) (k:Lock.S):Sp prog nt [pv x] gO [uV x k] (fun r=>pa_ (r = (Lock.draw k).1) [uV x (Lock.draw k).2]):=by
 intro h s0
 obtain ⟨b,p,q,rfl,st⟩:=lock_op s0
 refine sim_ticket_Lock_Draw _ ?_
 unfold rD
 refine dn rfl (cD ?_)
 refine bk p st (i:=0) rfl rfl rfl ?_
 refine cQ [1] (sp_cell_Up p k.1 _) st rfl fun r h1 s1=>?_
 obtain ⟨hr,s2⟩:=bt.1 s1
 subst hr
 exact aX rfl (lock_cl (bd [1] s2 rfl))
theorem sp_ticket_Turn (x:Ptr) (k:Lock.S) (t:Int):Sp prog jU [pv x,.int .u64 t] aC [uV x k] (fun r=>pa_ (r = (Lock.turn k t).1) [uV x (Lock.turn k t).2]):=by
 intro h s0
 obtain ⟨b,p,q,rfl,st⟩:=lock_op s0
 refine sim_ticket_Lock_Turn _ _ ?_
 unfold rB
 refine dL rfl (cD ?_)
 refine bk q st (i:=0) rfl rfl rfl ?_
 refine cQ [2] (sp_cell_Load q k.2) st rfl fun r h1 s1=>?_
 obtain ⟨hr,s2⟩:=bt.1 s1
 subst hr
 refine aY (fun c=>?_) (fun c=>?_)
 ·have c':k.2.1 = t:=by simpa using c
  have e:Lock.turn k t = (decide (t < k.1.1),(Cell.tick k.1,Cell.tick k.2)):=if_pos c'
  rw [e]
  refine bk p s2 (i:=1) rfl rfl rfl ?_
  refine cQ [2] (sp_cell_Load p k.1) s2 rfl fun r h2 s3=>?_
  obtain ⟨hr,s4⟩:=bt.1 s3
  subst hr
  exact aX rfl (lock_cl (bd [2] s4 rfl))
 ·have c':¬ k.2.1 = t:=by simpa using c
  have e:Lock.turn k t = (false,(k.1,Cell.tick k.2)):=if_neg c'
  rw [e]
  exact aX rfl (lock_cl (bd [1,1] s2 rfl))
theorem sp_ticket_Pass (x:Ptr) (k:Lock.S) (t:Int):Sp prog ns [pv x,.int .u64 t] aC [uV x k] (fun r=>pa_ (r = (Lock.pass k t).1) [uV x (Lock.pass k t).2]):=by
 intro h s0
 refine sim_ticket_Lock_Pass _ _ ?_
 unfold rC
 refine cQ [0] (sp_ticket_Turn x k t) s0 rfl fun r h1 s1=>?_
 obtain ⟨hr,s2⟩:=bt.1 s1
 subst hr
 refine aY (fun c=>?_) (fun c=>?_)
 ·have e:Lock.pass k t = ((Cell.cas (Lock.turn k t).2.2 t (IntKind.u64.wrap (t + 1))).1,((Lock.turn k t).2.1,(Cell.cas (Lock.turn k t).2.2 t (IntKind.u64.wrap (t + 1))).2)):=if_pos c
  rw [e]
  obtain ⟨b,p,q,rfl,st⟩:=lock_op s2
  refine cD (bk q st (i:=0) rfl rfl rfl ?_)
  refine cQ [2] (sp_cell_Cas q _ t _) st rfl fun r h2 s3=>?_
  obtain ⟨hr,s4⟩:=bt.1 s3
  subst hr
  exact aX rfl (lock_cl (bd [1,1] s4 rfl))
 ·have e:Lock.pass k t = (false,(Lock.turn k t).2):=by unfold Lock.pass; rw [c]; rfl
  rw [e]
  exact aX rfl s2
end
section
open Go Mb
set_option linter.unusedVariables false
def pD (K:Bool->Hp->Prop):Hp->Prop:=cl prog vO [(.int .i64 2)] tJ fun r24=>cl prog lw [] iu fun r25=>cl prog iE [] gH fun r26=>cl prog th [(.int .i64 3)] pj fun r27=>cl prog tk [(.int .u64 5)] pn fun r28=>cl prog xh [] tI fun r29=>cl prog xi [(.int .i64 2)] sw fun r30=>br ((((((r24.isNone || r25.isNone) || r26.isNone) || r27.isNone) || r28.isNone) || r29.isNone) || r30.isNone) ( K false) ( cl prog dX [(pv r25),(.int .i64 1),(.agg (an.C (⟨1,2,3⟩:an)).toArray)] bc fun r59=>cl prog oO [(pv r26),(.agg (am.C (⟨1,5,1,1⟩:am)).toArray)] aC fun r67=>cl prog oN [(pv r26),(.int .i64 1),(.int .i64 5)] fI fun r70=>cl prog nj [(pv r27),(.int .i64 0),(.int .u64 4)] ee fun r74=>cl prog ma [(pv r27),(.int .i64 2)] bK fun r77=>cl prog oU [(pv r28),(.int .u64 9)] bK fun r82=>cl prog nt [(pv r29)] gO fun r86=>cl prog jx [(pv r30)] bL fun r89=>cl prog lD [] aC fun r97=>br (((((((((((r97 && (r59 == 0)) && (eQ (⟨1,2,3⟩:an)).2) && (((eQ (⟨1,2,3⟩:an)).1) == 33059)) && r67) && r70.2) && (r70.1.fEa == 1)) && (r74 == 2)) && (r77.1 == 4)) && r77.2) && (r82.1 == 6)) && (r86 == 0)) ( cl prog jU [(pv r29),(.int .u64 0)] aC fun r141=>br r141 ( cl prog ns [(pv r29),(.int .u64 0)] aC fun r145=>br ((r145 && (r89.1 == 0)) && r89.2) ( cl prog fE [(pv r24),(.int .i64 1),(.int .i64 3),(.int .u64 9)] aC fun r156=>br ((r156 && (az (⟨6,0,0,0,0⟩:ai)).2) && (((az (⟨6,0,0,0,0⟩:ai)).1) == 6)) ( cl prog gS [(.agg (ai.C (⟨6,8,0,1,0⟩:ai)).toArray),(.int .i64 2)] bc fun r167=>br (r167 == 2) ( cl prog n_word_Args [(.int .i64 3)] ee fun r171=>br ((r171 == 4) && (aQ 1 3)) ( cl prog lW [(pv r25),(.int .i64 2)] cC fun r179=>br ((r179.len:Int) == 1) ( cl prog qb [(pv r30)] gO fun r185=>K (r185 == 2)) ( K false)) ( K false)) ( K false)) ( K false)) ( K false)) ( K false)) ( K false))
theorem wK {K:Bool->Hp->Prop} {h:Hp} (H:pD K h):Ct prog lA #[] h fun v h'=>∃ r,v = aC r/\K r h':=ay [] func187 c c c fun _=>M<|O c<|M<|aa<|Z H en_104 fun r24 _ H1=>aa<|Z H1 en_107 fun r25 _ H2=>aa<|Z H2 en_59 fun r26 _ H3=>aa<|Z H3 en_57 fun r27 _ H4=>p (au c)<|p (au c)<|p (au c)<|O c<|M<|aa<|Z H4 en_209 fun r28 _ H5=>aa<|Z H5 en_210 fun r29 _ H6=>aa<|Z H6 en_105 fun r30 _ H7=>p (au c)<|p (au c)<|O c<|al<|M<|J c<|p (cq underlying152 c)<|J c<|V c c (aL _) (fun g8=>wv<|ah c)<|V c c (aL _) (fun g9=>wv<|cq underlying161<|aD c g9)<|p (dp c c)<|J c<|V c c (aL _) (fun g10=>wv<|ah c)<|V c c (aL _) (fun g11=>wv<|cq underlying114<|aD c g11)<|p (dp c c)<|J c<|V c c (aL _) (fun g12=>wv<|ah c)<|V c c (aL _) (fun g13=>wv<|cq underlying105<|aD c g13)<|p (dp c c)<|J c<|V c c (aL _) (fun g14=>wv<|ah c)<|V c c (aL _) (fun g15=>wv<|cq underlying266<|aD c g15)<|p (dp c c)<|J c<|V c c (aL _) (fun g16=>wv<|ah c)<|V c c (aL _) (fun g17=>wv<|cq underlying268<|aD c g17)<|p (dp c c)<|J c<|V c c (aL _) (fun g18=>wv<|ah c)<|V c c (aL _) (fun g19=>wv<|cq underlying154<|aD c g19)<|p (dp c c)<|ad<|aw c H7 (fun k20 H21=>M<|O c<|aj<|Y ⟨false,c,H21⟩) fun k20 H21=>ao<|M<|J c<|p (ba c<|ph 1 2 3)<|aa<|Z H21 en_112 fun r59 _ H22=>O c<|M<|p (ba c<|ph 1 2 3)<|aa<|cK (vs:=[(.agg (an.C (⟨1,2,3⟩:an)).toArray)]) (bz<|ct_pte_Put (⟨1,2,3⟩:an) _) en_155 c c<|J c<|p (ak c c)<|p (ak c c)<|p (au c)<|O c<|M<|J c<|p (ba c<|wj 1 5 1 1)<|aa<|Z H22 en_159 fun r67 _ H23=>O c<|M<|J c<|aa<|Z H23 en_157 fun r70 _ H24=>J c<|p (ak c c)<|p (ak c c)<|aa<|aM (l:=am.C (⟨0,0,0,0⟩:am)) kS c c fun b12=>aa<|aP (k:=0) (vs:=am.C r70.1) fK c c c c c c c<|O c<|M<|J c<|aa<|Z H24 en_70 fun r74 _ H25=>O c<|M<|J c<|aa<|Z H25 en_97 fun r77 _ H26=>J c<|p (ak c c)<|p (ak c c)<|p (au c)<|O c<|M<|J c<|aa<|Z H26 en_211 fun r82 _ H27=>J c<|p (ak c c)<|p (ak c c)<|p (au c)<|O c<|M<|J c<|aa<|Z H27 en_212 fun r86 _ H28=>O c<|M<|J c<|aa<|Z H28 en_171 fun r89 _ H29=>J c<|p (ak c c)<|p (ak c c)<|p (au c)<|O c<|M<|p (ba c<|build_34_0 6)<|aa<|cK (vs:=[(.agg (ai.C (⟨6,0,0,0,0⟩:ai)).toArray)]) (bz<|kg (⟨6,0,0,0,0⟩:ai) _) en_63 c c<|J c<|p (ak c c)<|p (ak c c)<|p (au c)<|O c<|M<|aa<|Z H29 en_213 fun r97 _ H30=>J c<|V c c (aB _) (fun g31=>wv<|ah c)<|V c c (aB _) (fun g32=>wv<|bQ (aD c g32) c)<|p (bT c c)<|J c<|V c c (aB _) (fun g33=>wv<|ah c)<|p (bT c c)<|J c<|V c c (aB _) (fun g34=>wv<|ah c)<|V c c (aB _) (fun g35=>wv<|bQ (aD c g35) c)<|p (bT c c)<|J c<|V c c (aB _) (fun g36=>wv<|ah c)<|p (bT c c)<|J c<|V c c (aB _) (fun g37=>wv<|ah c)<|p (bT c c)<|J c<|V c c (aB _) (fun g38=>wv<|ae lJ c)<|V c c (aB _) (fun g39=>cv<|bf (k:=0) aZ (aD c g39) c c)<|V c c (aB _) (fun g40=>wv<|bQ (aD c g40) c)<|p (bT c c)<|J c<|V c c (aB _) (fun g41=>wv<|ah c)<|V c c (aB _) (fun g42=>wv<|bQ (aD c g42) c)<|p (bT c c)<|J c<|V c c (aB _) (fun g43=>wv<|ah c)<|V c c (aB _) (fun g44=>wv<|bQ (aD c g44) c)<|p (bT c c)<|J c<|V c c (aB _) (fun g45=>wv<|ah c)<|p (bT c c)<|J c<|V c c (aB _) (fun g46=>wv<|ah c)<|V c c (aB _) (fun g47=>wv<|bQ (aD c g47) c)<|p (bT c c)<|J c<|V c c (aB _) (fun g48=>wv<|ah c)<|V c c (aB _) (fun g49=>wv<|bQ (aD c g49) c)<|p (bT c c)<|J c<|V c c (aB _) (fun g50=>wv<|ah c)<|bS H30 (fun k52 H53=>F (D k52)<|fZ H53 en_214 (aS (aD c k52)<|aS c bR) c fun r141 _ H54=>p (aT c k52 c)<|J c<|V c c (aB _) (fun g55=>wv<|ah c)<|bS H54 (fun k57 H58=>F (D k57)<|fZ H58 en_215 (aS (aD c k57)<|aS c bR) c fun r145 _ H59=>p (aT c k57 c)<|J c<|V c c (aB _) (fun g60=>wv<|ah c)<|V c c (aB _) (fun g61=>wv<|bQ (aD c g61) c)<|p (bT c c)<|J c<|V c c (aB _) (fun g62=>wv<|ah c)<|p (bT c c)<|J c<|V c c (aB _) (fun g63=>wv<|ah c)<|bS H59 (fun k65 H66=>F (D k65)<|fZ H66 en_162 (aS (aD c k65)<|aS c<|aS c<|aS c bR) c fun r156 _ H67=>p (aT c k65 c)<|J c<|V c c (aB _) (fun g68=>wv<|ah c)<|p (bT c c)<|J c<|V c c (aB _) (fun g69=>wv<|ah c)<|V c c (aB _) (fun g70=>wv<|bQ (aD c g70) c)<|p (bT c c)<|J c<|V c c (aB _) (fun g71=>wv<|ba c<|jG 6 8 0 1)<|bS H67 (fun k73 H74=>F (D k73)<|fZ H74 en_110 (aS (aD c k73)<|aS c bR) c fun r167 _ H75=>F (D k73)<|R (bQ c c)<|p (aT c k73 c)<|J c<|bS H75 (fun k77 H78=>F (D k77)<|Z H78 en_216 fun r171 _ H79=>F (D k77)<|R (bQ c c)<|p (aT c k77 c)<|J c<|cZ (vs:=[(.int .i64 1),(.int .i64 3)]) c c c (aB _) (fun g80=>bz<|db 1 3 _) mJ (fun g80=>c) c<|p (bT c c)<|J c<|V c c (aB _) (fun g81=>wv<|ah c)<|bS H79 (fun k83 H84=>F (D k83)<|fZ H84 en_176 (aS (aD c k83)<|aS c bR) c fun r179 _ H85=>F (D k83)<|R (dz c underlying39 c)<|F (D k83)<|R (bQ c c)<|p (aT c k83 c)<|J c<|V c c (aB _) (fun g86=>wv<|ah c)<|bS H85 (fun k88 H89=>F (D k88)<|fZ H89 en_217 (aS (aD c k88) bR) c fun r185 _ H90=>F (D k88)<|R (bQ c c)<|p (aT c k88 c)<|O c<|aj<|Y ⟨(r185 == 2),c,H90⟩) fun k88 H89=>W (aU k88)<|W (aU k88)<|p (aq c k88 c)<|O c<|aj<|Y ⟨false,c,H89⟩) fun k83 H84=>W (aU k83)<|W (aU k83)<|W (aU k83)<|p (aq c k83 c)<|J c<|W c<|W c<|W c<|p (aq c c c)<|O c<|aj<|Y ⟨false,c,H84⟩) fun k77 H78=>W (aU k77)<|W (aU k77)<|p (aq c k77 c)<|J c<|W c<|p (aq c c c)<|J c<|W c<|W c<|W c<|W c<|p (aq c c c)<|J c<|W c<|W c<|W c<|p (aq c c c)<|O c<|aj<|Y ⟨false,c,H78⟩) fun k73 H74=>W (aU k73)<|W (aU k73)<|p (aq c k73 c)<|J c<|W c<|W c<|p (aq c c c)<|J c<|W c<|p (aq c c c)<|J c<|W c<|W c<|W c<|W c<|p (aq c c c)<|J c<|W c<|W c<|W c<|p (aq c c c)<|O c<|aj<|Y ⟨false,c,H74⟩) fun k65 H66=>W (aU k65)<|p (aq c k65 c)<|J c<|W c<|p (aq c c c)<|J c<|W c<|W c<|p (aq c c c)<|J c<|W c<|W c<|W c<|p (aq c c c)<|J c<|W c<|W c<|p (aq c c c)<|J c<|W c<|p (aq c c c)<|J c<|W c<|W c<|W c<|W c<|p (aq c c c)<|J c<|W c<|W c<|W c<|p (aq c c c)<|O c<|aj<|Y ⟨false,c,H66⟩) fun k57 H58=>W (aU k57)<|p (aq c k57 c)<|J c<|W c<|W c<|p (aq c c c)<|J c<|W c<|p (aq c c c)<|J c<|W c<|W c<|p (aq c c c)<|J c<|W c<|p (aq c c c)<|J c<|W c<|W c<|p (aq c c c)<|J c<|W c<|W c<|W c<|p (aq c c c)<|J c<|W c<|W c<|p (aq c c c)<|J c<|W c<|p (aq c c c)<|J c<|W c<|W c<|W c<|W c<|p (aq c c c)<|J c<|W c<|W c<|W c<|p (aq c c c)<|O c<|aj<|Y ⟨false,c,H58⟩) fun k52 H53=>W (aU k52)<|p (aq c k52 c)<|J c<|W c<|W c<|p (aq c c c)<|J c<|W c<|W c<|p (aq c c c)<|J c<|W c<|p (aq c c c)<|J c<|W c<|W c<|p (aq c c c)<|J c<|W c<|p (aq c c c)<|J c<|W c<|W c<|p (aq c c c)<|J c<|W c<|W c<|W c<|p (aq c c c)<|J c<|W c<|W c<|p (aq c c c)<|J c<|W c<|p (aq c c c)<|J c<|W c<|W c<|W c<|W c<|p (aq c c c)<|J c<|W c<|W c<|W c<|p (aq c c c)<|O c<|aj<|Y ⟨false,c,H53⟩
def pE (K:Bool->Hp->Prop):Hp->Prop:=cl prog lA [] aC fun r1=>K r1
theorem wL {K:Bool->Hp->Prop} {h:Hp} (H:pE K h):Ct prog lB #[] h fun v h'=>∃ r,v = aC r/\K r h':=ay [] func146 c c c fun _=>M<|O c<|M<|aa<|Z H en_187 fun r1 _ H1=>O c<|aj<|Y ⟨r1,c,H1⟩
end
section
open Go Mb
variable {ET:Nat} {EF:Nat × Nat}
section
variable {l:List As} {h:Hp} {x:Ptr}
theorem mem_nn {fs:List (List Int)} (s:aF (iq x fs::l) h):x.isNone = false:=by obtain ⟨b,_,_,rfl,_⟩:=mem_op s; rfl
theorem nn_of {α:Type} {φ:α->Prop} {m:α->List As} (hx:∀ z,φ z->x.isNone = false) (s:aF ((fun h=>∃ z,φ z/\aF (m z) h)::l) h):x.isNone = false:=by
 obtain ⟨z,f,_⟩:=op_ s
 exact hx z f
theorem table_nn {ps:List Pte} (s:aF (cX x ps::l) h):x.isNone = false:=nn_of (fun _ e=>by rw [e.1]; rfl) s
theorem tlb_nn {t:List TL × Int} (s:aF (fF x t::l) h):x.isNone = false:=nn_of (fun _ e=>by rw [e.1]; rfl) s
theorem mail_nn {bs:List (List Int)} (s:aF (jk x bs::l) h):x.isNone = false:=nn_of (fun _ e=>by rw [e.1]; rfl) s
theorem cell_nn {c:Int × Int} (s:aF (kN x c::l) h):x.isNone = false:=nn_of (fun _ e=>by rw [e]; rfl) s
theorem lock_nn {k:(Int × Int) × (Int × Int)} (s:aF (uV x k::l) h):x.isNone = false:=nn_of (fun _ e=>by rw [e]; rfl) s
theorem pool_nn {p:List Int} (s:aF (fW x p::l) h):x.isNone = false:=nn_of (fun _ e=>by rw [e.1]; rfl) s
end
theorem sp_Begun1:Sp prog lD [] aC [(etB ET EF)] (fun r=>pa_ (r = true) [(etB ET EF)]):=by
 intro h st
 refine wN ?_
 unfold pG
 exact bP (i:=0) sp_begun1 rfl st fun r h' hr s=>aX hr s
theorem sp_begun2:Sp prog lA [] aC [(etB ET EF)] (fun r=>pa_ (r = true) [(etB ET EF)]):=by
 intro h st
 refine wK ?_
 unfold pD
 refine mu (sp_mem_New 2 (by decide) (by decide)) st fun a1 h1 s1=>?_
 refine mu oq s1 fun a2 h2 s2=>?_
 refine mu wx s2 fun a3 h3 s3=>?_
 refine mu (sp_mail_New 3 (by decide) (by decide)) s3 fun a4 h4 s4=>?_
 refine mu (sp_cell_New 5) s4 fun a5 h5 s5=>?_
 refine mu sp_ticket_New s5 fun a6 h6 s6=>?_
 refine mu (sp_pool_New 2 (by decide) (by decide)) s6 fun a7 h7 s7=>?_
 have n1:=mem_nn s1
 have n2:=table_nn s2
 have n3:=tlb_nn s3
 have n4:=mail_nn s4
 have n5:=cell_nn s5
 have n6:=lock_nn s6
 have n7:=pool_nn s7
 rw [n1,n2,n3,n4,n5,n6,n7]
 refine dn rfl ?_
 refine bP (i:=5) (ko a2 _ 1 ⟨1,2,3⟩) rfl s7 fun r1 h8 e1 s8=>?_
 refine bP (i:=4) (sp_tlb_Fill a3 _ ⟨1,5,1,1⟩) rfl s8 fun r2 h9 e2 s9=>?_
 refine bP (i:=4) (sp_tlb_Find a3 _ 1 5) rfl s9 fun r3 h10 e3 s10=>?_
 refine bP (i:=3) (sp_mail_All a4 _ 0 4 (fun l hl=>?_)) rfl s10 fun r4 h11 e4 s11=>?_
 ·have:l = []:=by simpa using hl
  subst this
  exact ⟨fun _ h=>(by cases h),.nil,by decide⟩
 refine bP (i:=3) (sp_mail_Take a4 _ 2) rfl s11 fun r5 h12 e5 s12=>?_
 refine bP (i:=2) (sp_cell_Up a5 _ 9) rfl s12 fun r6 h13 e6 s13=>?_
 refine bP (i:=1) (sp_ticket_Draw a6 _) rfl s13 fun r7 h14 e7 s14=>?_
 refine bP (i:=0) (wz a7 _) rfl s14 fun r8 h15 e8 s15=>?_
 refine bP (i:=7) sp_Begun1 rfl s15 fun r9 h16 e9 s16=>?_
 subst e1 e2 e3 e4 e5 e6 e7 e8 e9
 refine dL (by kernel_rfl) ?_
 refine bP (i:=1) (sp_ticket_Turn a6 _ 0) rfl s16 fun r10 h17 e10 s17=>?_
 subst e10
 refine dL (by kernel_rfl) ?_
 refine bP (i:=1) (sp_ticket_Pass a6 _ 0) rfl s17 fun r11 h18 e11 s18=>?_
 subst e11
 refine dL (by kernel_rfl) ?_
 refine bP (i:=6) (lR a1 _ 1 3 9) rfl s18 fun r12 h19 e12 s19=>?_
 subst e12
 refine dL (by kernel_rfl) ?_
 refine tL (ji ⟨6,8,0,1,0⟩ 2) s19 fun r13 h20 e13 s20=>?_
 subst e13
 refine dL (by kernel_rfl) ?_
 refine tL (sp_word_Args 3) s20 fun r14 h21 e14 s21=>?_
 subst e14
 refine dL (by kernel_rfl) ?_
 refine wh (i:=5) (sp_table_By a2 _ 2) rfl s21 fun r15 h22 s22=>?_
 have e15:((r15.len:Int) == 1) = true:=by
  rw [(cj (j:=0) s22 rfl).1]
  kernel_rfl
 refine dL e15 ?_
 refine bP (i:=1) (sp_pool_Bits a7 _) rfl s22 fun r16 h23 e16 s23=>?_
 subst e16
 refine aX (by kernel_rfl) (ce (l:=[_,_,_,_,_,_,_,_]) s23)
theorem sp_Begun2:Sp prog lB [] aC [(etB ET EF)] (fun r=>pa_ (r = true) [(etB ET EF)]):=by
 intro h st
 refine wL ?_
 unfold pE
 exact bP (i:=0) sp_begun2 rfl st fun r h' hr s=>aX hr s
end
section
open Go Mb
set_option linter.unusedVariables false
def oD (K:Bool->Hp->Prop):Hp->Prop:=cl prog nO [(.agg (aE.C (⟨1,2,2⟩:aE)).toArray)] dK fun r23=>cl prog xl [(.int .i64 2)] sy fun r24=>cl prog nR [(.int .i64 3)] iJ fun r25=>cl prog iE [] gH fun r26=>cl prog lw [] iu fun r27=>cl prog vO [(.int .i64 2)] tJ fun r28=>br (((((r23.isNone || r24.isNone) || r25.isNone) || r26.isNone) || r27.isNone) || r28.isNone) ( K false) ( cl prog dx [(pv r23),(.int .i64 0),(.agg (ai.C (⟨1,1,0,0,0⟩:ai)).toArray)] bj fun r54=>cl prog dx [(pv r23),(.int .i64 0),(.agg (ai.C (⟨6,2,1,3,0⟩:ai)).toArray)] bj fun r60=>cl prog dx [(pv r23),(.int .i64 0),(.agg (ai.C (⟨21,2,5,77,0⟩:ai)).toArray)] bj fun r65=>cl prog dx [(pv r23),(.int .i64 0),(.agg (ai.C (⟨20,2,5,0,0⟩:ai)).toArray)] bj fun r69=>cl prog jB [(pv r24),(.int .i64 0),(.int .i64 1),(.int .i64 1)] bc fun r73=>cl prog ik [(pv r24),(.int .i64 0),(.int .i64 1),(.int .i64 1),(.int .i64 3),(.int .i64 1)] bc fun r75=>cl prog iV [(pv r25),(.int .i64 0)] bK fun r78=>cl prog jY [(pv r25),(.int .i64 1),(.int .u64 r78.1)] aC fun r83=>cl prog dX [(pv r27),(.int .i64 2),(.agg (an.C (⟨1,1,1⟩:an)).toArray)] bc fun r86=>cl prog n_user_Do [(pv r26),(pv r27),(pv r28),(.int .i64 0),(.agg (ai.C (⟨20,2,3,0,0⟩:ai)).toArray)] eK fun r92=>cl prog nu [(pv r23),(.int .i64 0),(.agg (ai.C (⟨7,5,0,0,0⟩:ai)).toArray)] iy fun r97=>cl prog lB [] aC fun r98=>br ((((((r98 && r54.2) && (r54.1.fWa == 0)) && (r60.1.fWa == 0)) && (r69.1.fVal == 77)) && (r73 == 0)) && (r75 == 0)) ( cl prog la [(pv r24),(.int .i64 0),(.int .i64 1)] cU fun r127=>br (((((r127.len:Int) == 1) && (r78.1 == 1)) && r78.2) && r83) ( cl prog jq [(pv r25),(.int .u64 1)] aC fun r143=>br (!r143) ( cl prog iU [(pv r25),(.int .u64 1)] cC fun r148=>br ((((((r148.len:Int) == 1) && (r86 == 0)) && (r92.1.fWa == 0)) && (r92.2.fEa == 1)) && (mW 3 3 4)) ( cl prog kA [(.int .i64 3)] iy fun r171=>cl prog nQ [r97,r171] aC fun r172=>br r172 ( cl prog mH [(pv r23)] cC fun r176=>K ((r176.len:Int) == 1)) ( K false)) ( K false)) ( K false)) ( K false)) ( K false))
theorem vn {K:Bool->Hp->Prop} {h:Hp} (H:oD K h):Ct prog kI #[] h fun v h'=>∃ r,v = aC r/\K r h':=ay [] func100 c c c fun _=>M<|O c<|M<|p (ba c<|tG 1 2 2)<|aa<|Z H en_56 fun r23 _ H1=>aa<|Z H1 en_106 fun r24 _ H2=>aa<|Z H2 en_58 fun r25 _ H3=>p (au c)<|p (au c)<|O c<|M<|aa<|Z H3 en_59 fun r26 _ H4=>aa<|Z H4 en_107 fun r27 _ H5=>aa<|Z H5 en_104 fun r28 _ H6=>p (au c)<|p (au c)<|O c<|al<|M<|J c<|p (cq underlying103 c)<|J c<|V c c (aL _) (fun g7=>wv<|ah c)<|V c c (aL _) (fun g8=>wv<|cq underlying155<|aD c g8)<|p (dp c c)<|J c<|V c c (aL _) (fun g9=>wv<|ah c)<|V c c (aL _) (fun g10=>wv<|cq underlying106<|aD c g10)<|p (dp c c)<|J c<|V c c (aL _) (fun g11=>wv<|ah c)<|V c c (aL _) (fun g12=>wv<|cq underlying114<|aD c g12)<|p (dp c c)<|J c<|V c c (aL _) (fun g13=>wv<|ah c)<|V c c (aL _) (fun g14=>wv<|cq underlying161<|aD c g14)<|p (dp c c)<|J c<|V c c (aL _) (fun g15=>wv<|ah c)<|V c c (aL _) (fun g16=>wv<|cq underlying152<|aD c g16)<|p (dp c c)<|ad<|aw c H6 (fun k17 H18=>M<|O c<|aj<|Y ⟨false,c,H18⟩) fun k17 H18=>ao<|M<|J c<|p (ba c<|kh 1 1)<|aa<|Z H18 en_72 fun r54 _ H19=>J c<|p (ak c c)<|p (ak c c)<|aa<|aM (l:=ab.C (⟨0,0⟩:ab)) de c c fun b7=>aa<|aP (k:=0) (vs:=ab.C r54.1) bO c c c c c c c<|O c<|M<|J c<|p (ba c<|jG 6 2 1 3)<|aa<|Z H19 en_72 fun r60 _ H20=>J c<|p (ak c c)<|p (ak c c)<|aa<|aM (l:=ab.C (⟨0,0⟩:ab)) de c c fun b9=>aa<|aP (k:=0) (vs:=ab.C r60.1) bO c c c c c c c<|O c<|M<|J c<|p (ba c<|jG 21 2 5 77)<|aa<|Z H20 en_72 fun r65 _ H21=>ad<|M<|J c<|p (ba c<|tE 20 2 5)<|aa<|Z H21 en_72 fun r69 _ H22=>J c<|p (ak c c)<|p (ak c c)<|aa<|aM (l:=ab.C (⟨0,0⟩:ab)) de c c fun b11=>aa<|aP (k:=0) (vs:=ab.C r69.1) bO c c c c c c c<|O c<|M<|J c<|aa<|Z H22 en_142 fun r73 _ H23=>J c<|aa<|Z H23 en_143 fun r75 _ H24=>p (au c)<|O c<|M<|J c<|aa<|Z H24 en_69 fun r78 _ H25=>J c<|p (ak c c)<|p (ak c c)<|p (au c)<|O c<|M<|J c<|J c<|aa<|Z H25 en_98 fun r83 _ H26=>O c<|M<|J c<|p (ba c<|ph 1 1 1)<|aa<|Z H26 en_112 fun r86 _ H27=>O c<|M<|J c<|J c<|J c<|p (ba c<|tE 20 2 3)<|aa<|Z H27 en_144 fun r92 _ H28=>J c<|p (ak c c)<|p (ak c c)<|aa<|aM (l:=ab.C (⟨0,0⟩:ab)) de c c fun b19=>aa<|aM (l:=am.C (⟨0,0,0,0⟩:am)) kS c c fun b20=>aa<|aP (k:=1) (vs:=ab.C r92.1) bO c c c c c c c<|aa<|aP (k:=0) (vs:=am.C r92.2) fK c c c c c c c<|ad<|M<|J c<|p (ba c<|kh 7 5)<|aa<|Z H28 en_145 fun r97 _ H29=>O c<|M<|aa<|Z H29 en_146 fun r98 _ H30=>J c<|V c c (aB _) (fun g31=>wv<|ah c)<|p (bT c c)<|J c<|V c c (aB _) (fun g32=>wv<|ae kx c)<|V c c (aB _) (fun g33=>cv<|bf (k:=4) oG (aD c g33) c c)<|V c c (aB _) (fun g34=>wv<|bQ (aD c g34) c)<|p (bT c c)<|J c<|V c c (aB _) (fun g35=>wv<|ae kx c)<|V c c (aB _) (fun g36=>cv<|bf (k:=3) oG (aD c g36) c c)<|V c c (aB _) (fun g37=>wv<|bQ (aD c g37) c)<|p (bT c c)<|J c<|V c c (aB _) (fun g38=>wv<|ae fld_30_1 c)<|V c c (aB _) (fun g39=>cv<|bf (k:=2) cy (aD c g39) c c)<|V c c (aB _) (fun g40=>wv<|bQ (aD c g40) c)<|p (bT c c)<|J c<|V c c (aB _) (fun g41=>wv<|ah c)<|V c c (aB _) (fun g42=>wv<|bQ (aD c g42) c)<|p (bT c c)<|J c<|V c c (aB _) (fun g43=>wv<|ah c)<|V c c (aB _) (fun g44=>wv<|bQ (aD c g44) c)<|p (bT c c)<|J c<|V c c (aB _) (fun g45=>wv<|ah c)<|bS H30 (fun k47 H48=>F (D k47)<|fZ H48 en_147 (aS (aD c k47)<|aS c<|aS c bR) c fun r127 _ H49=>F (D k47)<|R (dz c underlying201 c)<|F (D k47)<|R (bQ c c)<|p (aT c k47 c)<|J c<|V c c (aB _) (fun g50=>wv<|ah c)<|V c c (aB _) (fun g51=>wv<|bQ (aD c g51) c)<|p (bT c c)<|J c<|V c c (aB _) (fun g52=>wv<|ah c)<|p (bT c c)<|J c<|V c c (aB _) (fun g53=>wv<|ah c)<|p (bT c c)<|J c<|V c c (aB _) (fun g54=>wv<|ah c)<|bS H49 (fun k56 H57=>F (D k56)<|fZ H57 en_71 (aS (aD c k56)<|aS c bR) c fun r143 _ H58=>F (D k56)<|R (cr c)<|p (aT c k56 c)<|J c<|V c c (aB _) (fun g59=>wv<|ah c)<|bS H58 (fun k61 H62=>F (D k61)<|fZ H62 en_121 (aS (aD c k61)<|aS c bR) c fun r148 _ H63=>F (D k61)<|R (dz c underlying39 c)<|F (D k61)<|R (bQ c c)<|p (aT c k61 c)<|J c<|V c c (aB _) (fun g64=>wv<|ah c)<|V c c (aB _) (fun g65=>wv<|bQ (aD c g65) c)<|p (bT c c)<|J c<|V c c (aB _) (fun g66=>wv<|ae kx c)<|V c c (aB _) (fun g67=>cv<|bf (k:=1) oG (aD c g67) c c)<|V c c (aB _) (fun g68=>wv<|bQ (aD c g68) c)<|p (bT c c)<|J c<|V c c (aB _) (fun g69=>wv<|ae lJ c)<|V c c (aB _) (fun g70=>cv<|bf (k:=0) aZ (aD c g70) c c)<|V c c (aB _) (fun g71=>wv<|bQ (aD c g71) c)<|p (bT c c)<|J c<|cZ (vs:=[(.int .i64 3),(.int .u64 3),(.int .u64 4)]) c c c (aB _) (fun g72=>bz<|uZ 3 3 4 _) en_148 (fun g72=>c) c<|p (bT c c)<|J c<|V c c (aB _) (fun g73=>wv<|ah c)<|bS H63 (fun k75 H76=>F (D k75)<|Z H76 xE fun r171 _ H77=>F (D k75)<|fZ H77 en_149 (aS (aD c k75)<|aS c bR) c fun r172 _ H78=>p (aT c k75 c)<|J c<|V c c (aB _) (fun g79=>wv<|ah c)<|bS H78 (fun k81 H82=>F (D k81)<|fZ H82 en_54 (aS (aD c k81) bR) c fun r176 _ H83=>F (D k81)<|R (dz c underlying39 c)<|F (D k81)<|R (bQ c c)<|p (aT c k81 c)<|O c<|aj<|Y ⟨((r176.len:Int) == 1),c,H83⟩) fun k81 H82=>W (aU k81)<|W (aU k81)<|W (aU k81)<|p (aq c k81 c)<|O c<|aj<|Y ⟨false,c,H82⟩) fun k75 H76=>W (aU k75)<|W (aU k75)<|p (aq c k75 c)<|J c<|W c<|W c<|W c<|W c<|p (aq c c c)<|O c<|aj<|Y ⟨false,c,H76⟩) fun k61 H62=>W (aU k61)<|W (aU k61)<|W (aU k61)<|p (aq c k61 c)<|J c<|W c<|W c<|p (aq c c c)<|J c<|W c<|W c<|W c<|p (aq c c c)<|J c<|W c<|W c<|W c<|p (aq c c c)<|J c<|W c<|p (aq c c c)<|J c<|W c<|W c<|W c<|p (aq c c c)<|J c<|W c<|W c<|W c<|W c<|p (aq c c c)<|O c<|aj<|Y ⟨false,c,H62⟩) fun k56 H57=>W (aU k56)<|W (aU k56)<|p (aq c k56 c)<|J c<|W c<|W c<|W c<|W c<|p (aq c c c)<|J c<|W c<|W c<|p (aq c c c)<|J c<|W c<|W c<|W c<|p (aq c c c)<|J c<|W c<|W c<|W c<|p (aq c c c)<|J c<|W c<|p (aq c c c)<|J c<|W c<|W c<|W c<|p (aq c c c)<|J c<|W c<|W c<|W c<|W c<|p (aq c c c)<|O c<|aj<|Y ⟨false,c,H57⟩) fun k47 H48=>W (aU k47)<|W (aU k47)<|W (aU k47)<|p (aq c k47 c)<|J c<|W c<|W c<|p (aq c c c)<|J c<|W c<|p (aq c c c)<|J c<|W c<|p (aq c c c)<|J c<|W c<|W c<|W c<|p (aq c c c)<|J c<|W c<|W c<|W c<|W c<|p (aq c c c)<|J c<|W c<|W c<|p (aq c c c)<|J c<|W c<|W c<|W c<|p (aq c c c)<|J c<|W c<|W c<|W c<|p (aq c c c)<|J c<|W c<|p (aq c c c)<|J c<|W c<|W c<|W c<|p (aq c c c)<|J c<|W c<|W c<|W c<|W c<|p (aq c c c)<|O c<|aj<|Y ⟨false,c,H48⟩
def oE (K:Bool->Hp->Prop):Hp->Prop:=cl prog kI [] aC fun r1=>K r1
theorem vo {K:Bool->Hp->Prop} {h:Hp} (H:oE K h):Ct prog kJ #[] h fun v h'=>∃ r,v = aC r/\K r h':=ay [] func50 c c c fun _=>M<|O c<|M<|aa<|Z H en_100 fun r1 _ H1=>O c<|aj<|Y ⟨r1,c,H1⟩
end
section
open Go Mb
variable {ET:Nat} {EF:Nat × Nat}
section
variable {l:List As} {h:Hp} {x:Ptr}
theorem plain_nn {k:PK} (s:aF (bp x k::l) h):x.isNone = false:=nn_of (fun _ e=>by rw [e.1]; rfl) s
theorem tree_nn {k:fAa.T} (s:aF (cH x k::l) h):x.isNone = false:=nn_of (fun _ e=>by rw [e.1]; rfl) s
theorem epochs_nn {k:List Int × List Int} (s:aF (eY x k::l) h):x.isNone = false:=nn_of (fun _ e=>by rw [e.1]; rfl) s
end
theorem sp_plain_Err (x:Ptr) (k:PK) (e:Int) (c:ai) (h1:(PK.do_ k e c).1.2 = true) (h2:(PK.do_ k e c).1.1.fWa ≠ 0):Sp prog nu [pv x,.int .i64 e,.agg c.C.toArray] iy [(etB ET EF),bp x k]
  (fun r=>ex fun b:Nat × Nat=>pa_ (r = du b.1) [trB b.1 ⟨(PK.do_ k e c).1.1.fWa,e,c,du b.2⟩,(etB ET EF),bp x k]):=by
 intro h st
 have hn:=plain_nn (bd [1] st rfl)
 refine sim_plain_Kernel_Err _ _ _ ?_
 unfold rG
 refine dn hn ?_
 refine wh (i:=1) (uM x k) rfl st fun y g1 s1=>?_
 refine bP (i:=0) (jL y k e c) rfl s1 fun r g2 hr s2=>?_
 subst hr
 refine dn (by rw [h1]; rfl) ?_
 refine cQ [] (rest:=[_,_,_]) (sp_Of _ h2) s2 rfl fun r g3 s3=>?_
 obtain ⟨b,x3⟩:=uD s3
 obtain ⟨rfl,y3⟩:=bt.1 x3
 refine cQ [2,0] (rest:=[_,_]) (sp_In e c b _) y3 rfl fun r g4 s4=>?_
 obtain ⟨d,x4⟩:=uD s4
 obtain ⟨rfl,y4⟩:=bt.1 x4
 refine ⟨(d,b),aX rfl (ce (l:=[_,_]) (bd [2,2] y4 rfl))⟩
theorem sp_begun11:Sp prog kI [] aC [(etB ET EF)] (fun r=>pa_ (r = true) [(etB ET EF)]):=by
 intro h st
 refine vn ?_
 unfold oD
 refine mu (rV ⟨1,2,2⟩ (by decide)) st fun a1 h1 s1=>?_
 refine mu (sp_caps_New 2 (by decide) (by decide)) s1 fun a2 h2 s2=>?_
 refine mu (rY 3 (by decide) (by decide)) s2 fun a3 h3 s3=>?_
 refine mu wx s3 fun a4 h4 s4=>?_
 refine mu oq s4 fun a5 h5 s5=>?_
 refine mu (sp_mem_New 2 (by decide) (by decide)) s5 fun a6 h6 s6=>?_
 have n1:=plain_nn s1
 have n2:=tree_nn s2
 have n3:=epochs_nn s3
 have n4:=tlb_nn s4
 have n5:=table_nn s5
 have n6:=mem_nn s6
 rw [n1,n2,n3,n4,n5,n6]
 refine dn rfl ?_
 refine bP (i:=5) (jL a1 _ 0 ⟨1,1,0,0,0⟩) rfl s6 fun r1 h7 e1 s7=>?_
 refine bP (i:=5) (jL a1 _ 0 ⟨6,2,1,3,0⟩) rfl s7 fun r2 h8 e2 s8=>?_
 refine bP (i:=5) (jL a1 _ 0 ⟨21,2,5,77,0⟩) rfl s8 fun r3 h9 e3 s9=>?_
 refine bP (i:=5) (jL a1 _ 0 ⟨20,2,5,0,0⟩) rfl s9 fun r4 h10 e4 s10=>?_
 refine bP (i:=4) (wD a2 _ 0 1 1) rfl s10 fun r5 h11 e5 s11=>?_
 refine bP (i:=4) (sN a2 _ 0 1 1 3 1) rfl s11 fun r6 h12 e6 s12=>?_
 refine bP (i:=3) (sp_epoch_Begin a3 _ 0 (by decide)) rfl s12 fun r7 h13 e7 s13=>?_
 subst e7
 refine bP (i:=3) (sp_epoch_Ack a3 _ 1 _) rfl s13 fun r8 h14 e8 s14=>?_
 refine bP (i:=1) (ko a5 _ 2 ⟨1,1,1⟩) rfl s14 fun r9 h15 e9 s15=>?_
 refine cQ [2,1,0] (rest:=[_,_,_,_]) (sp_user_Do a4 a5 a6 _ _ _ 0 ⟨20,2,3,0,0⟩) s15 rfl fun r10 h16 x16=>?_
 obtain ⟨e10,s16⟩:=bt.1 x16
 subst e1 e2 e3 e4 e5 e6 e8 e9 e10
 refine cQ [6,5] (rest:=[_,_,_,_,_]) (sp_plain_Err a1 _ 0 ⟨7,5,0,0,0⟩ (by kernel_rfl) (by decide)) s16 rfl fun r11 h17 x17=>?_
 obtain ⟨⟨b,b'⟩,z17⟩:=uD x17
 obtain ⟨rfl,s17⟩:=bt.1 z17
 refine bP (i:=1) sp_Begun2 rfl s17 fun r12 h18 e12 s18=>?_
 subst e12
 refine dL (by kernel_rfl) ?_
 refine wh (i:=7) (sp_caps_Below a2 _ 0 1) rfl s18 fun r13 h19 s19=>?_
 have e13:((r13.len:Int) == 1) = true:=by
  rw [(cj (j:=0) s19 rfl).1]
  kernel_rfl
 rw [e13]
 refine dL (by kernel_rfl) ?_
 refine bP (i:=7) (sp_epoch_Done a3 _ 1) rfl s19 fun r14 h20 e14 s20=>?_
 subst e14
 refine dL (by kernel_rfl) ?_
 refine wh (i:=7) (sp_epoch_Waits a3 _ 1) rfl s20 fun r15 h21 s21=>?_
 have e15:((r15.len:Int) == 1) = true:=by
  rw [(cj (j:=0) s21 rfl).1]
  kernel_rfl
 rw [e15]
 refine dL (by kernel_rfl) ?_
 refine cQ [] (rest:=[_,_,_,_,_,_,_,_,_,_]) (sp_Of 3 (by decide)) s21 rfl fun r16 h22 x22=>?_
 obtain ⟨d,z22⟩:=uD x22
 obtain ⟨rfl,s22⟩:=bt.1 z22
 refine cQ [3,0] (rest:=[_,_,_,_,_,_,_,_,_]) (sp_Is1 b d _ tr3 (by kernel_rfl) (.inr ⟨b',by kernel_rfl⟩)) s22 rfl fun r17 h23 x23=>?_
 obtain ⟨rfl,s23⟩:=bt.1 x23
 refine dL rfl ?_
 refine wh (i:=5) (sp_plain_Free a1 _) rfl s23 fun r18 h24 s24=>?_
 have e18:((r18.len:Int) == 1) = true:=by
  rw [(cj (j:=0) s24 rfl).1]
  kernel_rfl
 exact aX e18 (ce (l:=[_,_,_,_,_,_,_,_,_,_,_]) (bd [0,0,0,0,0,1,1,1,1,1,1] s24 rfl))
theorem sp_Begun11:Sp prog kJ [] aC [(etB ET EF)] (fun r=>pa_ (r = true) [(etB ET EF)]):=by
 intro h st
 refine vo ?_
 unfold oE
 exact bP (i:=0) sp_begun11 rfl st fun r h' hr s=>aX hr s
end
section
open Go Mb
theorem calls_nil:∀ (n:Nat) {l:List As} {h:Hp},aF l h->aF (all iC (List.replicate n (none:Ptr)) (List.replicate n (none:Option KC))::l) h
 | 0,_,_,s=>all_nil s
 | n + 1,l,h,s=>by
  have s1:=star_cons (A:=iC none none) (fun _=>rfl) (calls_nil n s)
  rw [List.replicate_succ,List.replicate_succ]
  obtain ⟨h1,h2,d,e,a,h3,h4,d2,e2,b,s'⟩:=s1
  subst e2
  obtain ⟨d3,d4⟩:=Dj.of_un_right d
  exact ⟨un h1 h3,h4,Dj.un_left d4 d2,by rw [e,mM],⟨h1,h3,d3,rfl,a,b⟩,s'⟩
def newI (s:fD) (b n:Nat) (pp pm pe:Ptr) (cs:Sl) (i:Int) (h:Hp):Prop:=∃ (j:Nat) (ts:Sl) (tp:List Ptr),i = j/\j <= n/\tp.length = j/\aF [blk b ci [pv pp,.int .i64 s.fIa,sv ts,pv pm,pv pe,sv cs,sv (⟨none,0,0,none⟩:Sl),.int .i64 0],bp pp (PK.new s),vQ sL ts tp,all fF tp (List.replicate j tlb0),jk pm (List.replicate n []),eY pe ([],List.replicate n 0),vQ fu cs (List.replicate n none),all iC (List.replicate n none) (List.replicate n none),vE (⟨none,0,0,none⟩:Sl) []] h
theorem new_round {s:fD} {b n:Nat} {pp pm pe:Ptr} {cs:Sl} (hn8:n <= 8) {i:Int} {h:Hp} (H:newI s b n pp pm pe cs i h) (hi:i < n) :
  (both (ld (b,2) cS fun x31=>cl prog iE [] gH fun r32=>hpv prog (Instr.buildSlice bU 1 #[(0,(pv r32))]) dM fun (v33:Sl)=>hpv prog (Builtin.append_ #[bU,bU] bU #[(sv x31),(sv v33)]) dM fun (v34:Sl)=>Mb.st (b,2) [sv v34] fun h'=>newI s b n pp pm pe cs (IntKind.i64.wrap (i + 1)) h'/\n - (IntKind.i64.wrap (i + 1)).toNat < n - i.toNat)
  (cl prog iE [] gH fun r32=>ld (b,2) cS fun x31=>hpv prog (Instr.buildSlice bU 1 #[(0,(pv r32))]) dM fun (v33:Sl)=>hpv prog (Builtin.append_ #[bU,bU] bU #[(sv x31),(sv v33)]) dM fun (v34:Sl)=>Mb.st (b,2) [sv v34] fun h'=>newI s b n pp pm pe cs (IntKind.i64.wrap (i + 1)) h'/\n - (IntKind.i64.wrap (i + 1)).toNat < n - i.toNat)) h:=by
 obtain ⟨j,ts,tp,rfl,hj,htp,s6⟩:=H
 have hlt:j < n:=by omega
 have hw:IntKind.i64.wrap ((j:Int) + 1) = ((j + 1:Nat):Int):=by rw [bM (by omega) (by omega)]; rfl
 rw [hw]
 have fin:∀ (r:Ptr) (v:Sl) (h:Hp),aF [fF r tlb0,blk b ci [pv pp,.int .i64 s.fIa,sv ts,pv pm,pv pe,sv cs,sv (⟨none,0,0,none⟩:Sl),.int .i64 0],bp pp (PK.new s),vQ sL v (tp++[r]),all fF tp (List.replicate j tlb0),jk pm (List.replicate n []),eY pe ([],List.replicate n 0),vQ fu cs (List.replicate n none),all iC (List.replicate n none) (List.replicate n none),vE (⟨none,0,0,none⟩:Sl) []] h ->
   Mb.st (b,2) [sv v] (fun h'=>newI s b n pp pm pe cs ((j + 1:Nat):Int) h'/\n - ((j + 1:Nat):Int).toNat < n - (j:Int).toNat) h:=by
  intro r v h s7
  refine uL (i:=1) s7 rfl (Nat.le_of_ble_eq_true rfl) fun h8 s8=>?_
  refine ⟨⟨j + 1,v,tp++[r],rfl,hlt,by simp [htp],?_⟩,by simp; omega⟩
  have s9:=all_push (by simp [htp]) (bd [0,3] s8 rfl)
  have e:List.replicate j tlb0++[tlb0] = List.replicate (j + 1) tlb0:=List.replicate_succ'.symm
  rw [e] at s9
  exact bd [1,1,1,0] s9 rfl
 refine ⟨?_,?_⟩
 ·refine bk ts s6 (i:=0) rfl rfl rfl ?_
  refine mu wx s6 fun r h7 s7=>?_
  refine kC (τ:=Ptr) (i:=3) (enc:=cP) (val:=fun x=>pv x) el_SPtlb_Tlb gU cP_one (fun _=>rfl) (by omega) rfl rfl s7 rfl (by omega) (by omega) fun v h8 s8=>?_
  exact fin r v h8 s8
 ·refine mu wx s6 fun r h7 s7=>?_
  refine bk ts s7 (i:=1) rfl rfl rfl ?_
  refine kC (τ:=Ptr) (i:=3) (enc:=cP) (val:=fun x=>pv x) el_SPtlb_Tlb gU cP_one (fun _=>rfl) (by omega) rfl rfl s7 rfl (by omega) (by omega) fun v h8 s8=>?_
  exact fin r v h8 s8
theorem new_start {s:fD} {b n:Nat} {pp pm pe:Ptr} {cs:Sl} {h:Hp}
  (st:aF [blk b ci (fH.C (⟨pp,s.fIa,(⟨none,0,0,none⟩:Sl),pm,pe,cs,(⟨none,0,0,none⟩:Sl),0⟩:fH)),bp pp (PK.new s),jk pm (List.replicate n []),eY pe ([],List.replicate n 0),vQ fu cs (List.replicate n none)] h):newI s b n pp pm pe cs 0 h:=by
 have s1:=fN (τ:=bm) (T:=li) (m:=16) (enc:=av.C) (calls_nil n (fN (τ:=Ptr) (T:=sL) (m:=1) (enc:=cP) (all_nil (A:=fF) st)))
 exact ⟨0,⟨none,0,0,none⟩,[],rfl,Nat.zero_le _,rfl,bd [4,4,2,2,2,2,2,1] s1 rfl⟩
theorem new_end {s:fD} (hs:PK.sized s = true) {b n:Nat} (hn:s.fVa = n) {pp pm pe:Ptr} {cs:Sl} {h:Hp} (H:newI s b n pp pm pe cs n h):aF [cL (some (b,0)) (KK.new s)] h:=by
 obtain ⟨j,ts,tp,hj,hj2,htp,s6⟩:=H
 have:j = n:=by omega
 subst this
 have ok:=kok_new hs
 have e:KK.new s = ⟨PK.new s,List.replicate j tlb0,List.replicate j [],([],List.replicate j 0),List.replicate j none,[],0⟩:=by unfold KK.new; rw [hn]; rfl
 rw [e] at ok ⊢
 exact oV (z:=⟨b,pp,ts,tp,pm,pe,cs,List.replicate j none,⟨none,0,0,none⟩⟩) ⟨by simpa using htp,by simp⟩ ok s6
theorem sp_kern_New (s:fD) (hs:PK.sized s = true):Sp prog xj [.agg s.C.toArray] sx [] (fun r=>aF [cL r (KK.new s)]):=by
 intro h st
 have hz:=fA.1 hs
 obtain ⟨n,hn⟩:=Int.eq_ofNat_of_zero_le (show 0 <= s.fVa by omega)
 have hn8:n <= 8:=by omega
 refine sim_kern_New _ ?_
 unfold sh_kern_New
 refine mu (rV s hs) st fun pp h1 s1=>?_
 have hpp:pp.isNone = false:=by
  obtain ⟨_,h2,_⟩:=fO s1; rw [h2]; rfl
 refine dn hpp ?_
 have mk:∀ {l:List As} {h:Hp} {K:Sl->Hp->Prop},aF l h->(∀ v h',aF (vQ fu v (List.replicate n none)::l) h'->K v h')->hpv prog (Instr.makeSlice mT (.int .i64 s.fVa) (.int .i64 s.fVa)) qy K h:=by
  intro l h K s2 k
  rw [hn]
  exact nS (τ:=Ptr) (x0:=none) (enc:=cP) (n:=n) (T:=fu) (m:=1) el_SPkern_call rfl s2 (by omega) (by omega) k
 have em:s.fVa.toNat = n:=by omega
 refine ⟨?_,?_⟩
 ·refine mu (sp_mail_New s.fVa (by omega) (by omega)) s1 fun pm h2 s2=>?_
  refine ⟨?_,?_⟩
  ·refine mu (rY s.fVa (by omega) (by omega)) s2 fun pe h3 s3=>?_
   rw [em] at s3
   refine mk s3 fun cs h4 s4=>?_
   refine pw s4 fun b h5 s5=>?_
   refine Lp.intro (fun (i:Int) h=>newI s b n pp pm pe cs i h) (fun (i:Int) _=>n - i.toNat) (new_start (bd [0,4,3,2,1] s5 rfl)) ?_
   intro i h H
   unfold kern_New_l1
   refine aY (fun d=>new_round hn8 H (by have:=of_decide_eq_true d; omega)) (fun d=>?_)
   have:i = n:=by obtain ⟨j,_,_,e,hj,_⟩:=H; have:=of_decide_eq_false d; omega
   subst this
   exact new_end hs hn H
  ·refine mk s2 fun cs h3 s3=>?_
   refine mu (rY s.fVa (by omega) (by omega)) s3 fun pe h4 s4=>?_
   rw [em] at s4
   refine pw s4 fun b h5 s5=>?_
   refine Lp.intro (fun (i:Int) h=>newI s b n pp pm pe cs i h) (fun (i:Int) _=>n - i.toNat) (new_start (bd [0,3,2,0,0] s5 rfl)) ?_
   intro i h H
   unfold kern_New_l2
   refine aY (fun d=>new_round hn8 H (by have:=of_decide_eq_true d; omega)) (fun d=>?_)
   have:i = n:=by obtain ⟨j,_,_,e,hj,_⟩:=H; have:=of_decide_eq_false d; omega
   subst this
   exact new_end hs hn H
 ·refine mk s1 fun cs h2 s2=>?_
  refine mu (sp_mail_New s.fVa (by omega) (by omega)) s2 fun pm h3 s3=>?_
  refine mu (rY s.fVa (by omega) (by omega)) s3 fun pe h4 s4=>?_
  rw [em] at s4
  refine pw s4 fun b h5 s5=>?_
  refine Lp.intro (fun (i:Int) h=>newI s b n pp pm pe cs i h) (fun (i:Int) _=>n - i.toNat) (new_start (bd [0,3,1,0,0] s5 rfl)) ?_
  intro i h H
  unfold kern_New_l3
  refine aY (fun d=>new_round hn8 H (by have:=of_decide_eq_true d; omega)) (fun d=>?_)
  have:i = n:=by obtain ⟨j,_,_,e,hj,_⟩:=H; have:=of_decide_eq_false d; omega
  subst this
  exact new_end hs hn H
end
end Go.Proofs.YtemoifebbhoinaaGreatDoor
