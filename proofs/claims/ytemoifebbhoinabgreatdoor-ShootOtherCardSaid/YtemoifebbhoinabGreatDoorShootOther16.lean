/- Part of the proof of: The law ShootOther returns true for every input, and leaves its arguments as they were. -/
import Derived.Test.YtemoifebbhoinabGreatDoorShootOther15
set_option linter.all false
set_option maxRecDepth 20000
namespace Go.Proofs.YtemoifebbhoinabGreatDoor
open Go.Proofs.Tryz
open Go.IntKind (i64 u64)
open _root_.List (replicate)
open _root_.Nat (le_refl)
section
open Go Mb
variable {ET:Nat} {EF:Nat × Nat}
abbrev dF (b:Nat):Value:=.iface bg (.pointer (some ⟨b,0,none⟩))
theorem g0:prog.globals.size = 4:=by kernel_rfl
theorem g1:typeHandle prog bg = pv (some (4,bg)):=by kernel_rfl
theorem g2:(prog.globals[0]?).map (·.type) = some 205:=by kernel_rfl
theorem oneErr:((List.range 315).filter fun t=>prog.rowNamed t [101,114,114,111,114]) = [150]:=by kernel_rfl
theorem g4:prog.types.size = 315:=by kernel_rfl
abbrev rtV (T:Nat):Value:=.iface rX (.agg #[pv (some (4,T))])
abbrev vl (T c f:Nat):aK:=⟨some (4,T),some (c,0),f⟩
abbrev vlV (T c f:Nat):Value:=.agg (aK.C (vl T c f)).toArray
section
variable (b:Nat) (K:Next->Hp->Prop) (h:Hp)
theorem x7:hp prog (callFunc gC #[dF b]) K h = K (.value (rtV bg)) h:=by kernel_rfl
theorem x8:hp prog (callFunc db #[.iface bE (.pointer (some ⟨b,0,none⟩))]) K h = (true = true/\∀ e,h e = none->K (.value (vlV bE e 150)) (eF h e (.cells #[pv (some (b,0))] bE (0,0)))):=by kernel_rfl
theorem x8':hp prog (callFunc db #[dF b]) K h = (true = true/\∀ e,h e = none->K (.value (vlV bg e 150)) (eF h e (.cells #[pv (some (b,0))] bg (0,0)))):=by kernel_rfl
theorem x10:hp prog (callMethod (rtV bE) "Kind" #[]) K h = K (.value (.int .u8 22)) h:=by kernel_rfl
theorem x11:hp prog (callMethod (rtV bE) "Elem" #[]) K h = K (.value (rtV bg)) h:=by kernel_rfl
theorem x12:hp prog (callMethod (rtV bg) "Kind" #[]) K h = K (.value (.int .u8 22)) h:=by kernel_rfl
theorem x13:hp prog (callMethod (rtV bg) "Comparable" #[]) K h = K (.value (.bool true)) h:=by kernel_rfl
theorem x14:hp prog (callMethod (rtV bg) "AssignableTo" #[rtV bg]) K h = K (.value (.bool true)) h:=by kernel_rfl
theorem x15 (c:Nat):hp prog (callFunc iV #[vlV bE c 150]) K h = K (.value (rtV bE)) h:=by kernel_rfl
theorem x16 (c:Nat):hp prog (callFunc fx #[vlV bE c 150]) K h =
 hp prog (do let r ← Extern.ReflectliteValue.isNil bE ⟨c,0,none⟩ 150 22; pure (.value r)) K h:=by kernel_rfl
theorem x17:hp prog (callMethod (rtV bg) "Implements" #[rtV gL]) K h = K (.value (.bool true)) h:=by kernel_rfl
theorem x18 (c:Nat):hp prog (callFunc fK #[vlV bE c 150]) K h =
 hp prog (do let r ← Extern.ReflectliteValue.elem bE ⟨c,0,none⟩ 150 22; pure (.value r)) K h:=by kernel_rfl
theorem x19 (c d:Nat):hp prog (callFunc fQ #[vlV bg c 406,vlV bg d 150]) K h =
 hp prog (do let r ← (do let v ← loadVar bg ⟨d,0,none⟩; storeVar bg ⟨c,0,none⟩ v; pure (Value.tuple #[])); pure (.value r)) K h:=by kernel_rfl
theorem y1 (c:Nat) (K:Value->Hp->Prop):hp prog (loadVar bE ⟨c,0,none⟩) K h = ∃ v,lO h ⟨c,0,none⟩ = some v/\K v h:=by kernel_rfl
theorem y2 (c:Nat) (K:Value->Hp->Prop):hp prog (loadVar bg ⟨c,0,none⟩) K h = ∃ v,lO h ⟨c,0,none⟩ = some v/\K v h:=by kernel_rfl
theorem y3 (b:Nat) (K:Value->Hp->Prop):hp prog (Extern.ReflectliteValue.mk bg ⟨b,0,none⟩ Extern.ReflectliteValue.flagAddr) K h = K (vlV bg b 406) h:=by kernel_rfl
theorem y4 (K:Option TypeId->Hp->Prop):hp prog (Extern.Rtype.elem? bE) K h = K (some bg) h:=by kernel_rfl
theorem y5 (b c:Nat) (K:Unit->Hp->Prop):hp prog (storeVar bg ⟨c,0,none⟩ (.pointer (some ⟨b,0,none⟩))) K h = hp prog (storeCells ⟨c,0,none⟩ [.pointer (some ⟨b,0,none⟩)]) K h:=by kernel_rfl
theorem y6 (K:Value->Hp->Prop) {a b n m:Nat}:hp prog (do eqGuard .eql 150 (.tmp n) (.tmp m) (dF a) (dF b); binOp .eql 150 (dF a) (dF b):Sem Value) K h = hp prog (do let r ← sameAddr ⟨a,0,none⟩ ⟨b,0,none⟩; pure (.bool r)) K h:=by kernel_rfl
theorem x25 (K:Bool->Hp->Prop) {a b:Nat} {ca cb:List Value} {Ta Tb:Nat} (ha:h a = some (.cells ca.toArray Ta (0,0))) (hb:h b = some (.cells cb.toArray Tb (0,0))) (H:K (a == b) h):hp prog (sameAddr ⟨a,0,none⟩ ⟨b,0,none⟩) K h:=by
 unfold sameAddr
 rcases Decidable.em (a = b) with e | e
 ·subst e
  rw [if_pos (by simp)]
  have H':K true h:=by simpa using H
  simpa [hp_pure] using H'
 ·rw [if_neg (by simpa using e)]
  have fa:∀ (K:Bool->Hp->Prop) (o:Nat),hp prog (frozen ⟨a,o,none⟩) K h↔K false h:=fun K o =>
   ⟨fun ⟨o',h1,h2⟩=>by rw [ha] at h1; cases h1; simpa [hp,uV] using h2,fun h2=>⟨_,ha,by simpa [hp,uV] using h2⟩⟩
  have fb:∀ (K:Bool->Hp->Prop) (o:Nat),hp prog (frozen ⟨b,o,none⟩) K h↔K false h:=fun K o =>
   ⟨fun ⟨o',h1,h2⟩=>by rw [hb] at h1; cases h1; simpa [hp,uV] using h2,fun h2=>⟨_,hb,by simpa [hp,uV] using h2⟩⟩
  have sa:∀ (K:Option (TypeId × Nat)->Hp->Prop),hp prog (shape a) K h↔K (some (Ta,ca.length)) h:=fun K =>
   ⟨fun ⟨o',h1,h2⟩=>by rw [ha] at h1; cases h1; simpa [hp,oshape] using h2,fun h2=>⟨_,ha,by simpa [hp,oshape] using h2⟩⟩
  have sb:∀ (K:Option (TypeId × Nat)->Hp->Prop),hp prog (shape b) K h↔K (some (Tb,cb.length)) h:=fun K =>
   ⟨fun ⟨o',h1,h2⟩=>by rw [hb] at h1; cases h1; simpa [hp,oshape] using h2,fun h2=>⟨_,hb,by simpa [hp,oshape] using h2⟩⟩
  have eb:(a == b) = false:=by simpa using e
  rw [eb] at H
  simp [cZ,fa,fb,sa,sb,noView,viewAt,mayBeOne,stringish,hp_pure,H]
end
section
variable {P:Program} {τ:Type} {enc:τ->Value} {K:τ->Hp->Prop} {h:Hp}
theorem fR {m:Sem Value} (r:τ) (e:∀ (K:Value->Hp->Prop) h,hp P m K h = K (enc r) h) (k:K r h):hpv P m enc K h:=⟨by rw [e]; exact ⟨r,rfl,k⟩⟩
theorem uc {m:Sem Next} (r:τ) (e:∀ (K:Next->Hp->Prop) h,hp P m K h = K (.value (enc r)) h) (k:K r h):cln P m enc K h:=⟨by rw [e]; exact .inl ⟨r,rfl,k⟩⟩
theorem cln_en {m:Sem Next} {f:FuncId} {vs:List Value} (e:∀ (K:Next->Hp->Prop) h,hp P m K h = K (.enter f vs.toArray) h) (k:cl P f vs enc K h):cln P m enc K h:=⟨by rw [e]; exact .inr ⟨f,_,rfl,k⟩⟩
end
abbrev etB (ET:Nat) (EF:Nat × Nat):As:=obj 0 (.cells #[rtV gL] ET EF)
abbrev trB (b:Nat) (t:bY):As:=blk b oo (bY.C t)
theorem en_0 (b n:Nat) (K:Value->Hp->Prop) (h:Hp):hp prog (do eqGuard .eql 150 (.tmp n) (.const Value.nilIface) (dF b) Value.nilIface; binOp .eql 150 (dF b) Value.nilIface:Sem Value) K h = K (.bool false) h:=by kernel_rfl
theorem en_00 (n:Nat) (K:Value->Hp->Prop) (h:Hp):hp prog (do eqGuard .eql 150 (.tmp n) (.const Value.nilIface) Value.nilIface Value.nilIface; binOp .eql 150 Value.nilIface Value.nilIface:Sem Value) K h = K (.bool true) h:=by kernel_rfl
theorem en_1 (b n:Nat) (K:Value->Hp->Prop) (h:Hp):hp prog (do eqGuard .eql 20 (.tmp n) (.const Value.nilIface) (.iface bE (.pointer (some ⟨b,0,none⟩))) Value.nilIface; binOp .eql 20 (.iface bE (.pointer (some ⟨b,0,none⟩))) Value.nilIface:Sem Value) K h = K (.bool false) h:=by kernel_rfl
theorem sp_As_nil (v:Value):Sp prog vb [Value.nilIface,v] aB [] (fun r=>pa_ (r = false) []):=by
 intro h st
 refine sim_errors_As _ _ ?_
 unfold xG
 exact fR true (en_00 _) (dU rfl (aY rfl st))
section
variable {h:Hp} {b c d:Nat}
theorem c22 {K:Bool->Hp->Prop} (e:lO h ⟨c,0,none⟩ = some (.pointer (some ⟨b,0,none⟩))) (H:K false h):cln prog (callFunc fx #[vlV bE c 150]) aB K h:=by
 constructor
 rw [x16,cZ]
 unfold Extern.ReflectliteValue.isNil
 rw [if_neg (by decide)]
 rw [cZ,y1]; exact ⟨_,e,.inl ⟨false,rfl,H⟩⟩
theorem c23 {K:aK->Hp->Prop} (e:lO h ⟨c,0,none⟩ = some (.pointer (some ⟨b,0,none⟩))) (H:K (vl bg b 406) h):cln prog (callFunc fK #[vlV bE c 150]) fU K h:=by
 constructor
 rw [x18,cZ]
 unfold Extern.ReflectliteValue.elem
 rw [if_neg (by decide),cZ,y1]
 refine ⟨_,e,?_⟩
 rw [cZ,y4]
 show hp _ (Extern.ReflectliteValue.mk _ _ _) _ h
 rw [y3]; exact .inl ⟨_,rfl,H⟩
theorem c24 {K:Unit->Hp->Prop} (e:lO h ⟨d,0,none⟩ = some (.pointer (some ⟨b,0,none⟩))) (H:hp prog (storeCells ⟨c,0,none⟩ [.pointer (some ⟨b,0,none⟩)]) (fun _=>K ()) h):cln prog (callFunc fQ #[vlV bg c 406,vlV bg d 150]) R_ K h:=by
 constructor
 rw [x19,cZ,cZ,y2]; refine ⟨_,e,?_⟩
 rw [cZ,y5]; exact hp_mono _ (fun _ _ k=>.inl ⟨(),rfl,k⟩) _ H
theorem c8 {K:aK->Hp->Prop} (H:∀ e,h e = none->K (vl bE e 150) (eF h e (.cells #[pv (some (b,0))] bE (0,0)))):cln prog (callFunc db #[.iface bE (.pointer (some ⟨b,0,none⟩))]) fU K h:=by
 constructor
 rw [x8]
 exact ⟨rfl,fun e he=>.inl ⟨_,rfl,H e he⟩⟩
theorem c8' {K:aK->Hp->Prop} (H:∀ e,h e = none->K (vl bg e 150) (eF h e (.cells #[pv (some (b,0))] bg (0,0)))):cln prog (callFunc db #[dF b]) fU K h:=by
 constructor
 rw [x8']
 exact ⟨rfl,fun e he=>.inl ⟨_,rfl,H e he⟩⟩
end
theorem blk_cell {l:List As} {h:Hp} {i b:Nat} {T:TypeId} {c:List Value} {v:Value} (hi:l[i]? = some (blk b T c)) (hv:c[0]? = some v) (s:az l h):lO h ⟨b,0,none⟩ = some v:=by
 obtain ⟨g1,a1,sub1⟩:=eI hi s
 have:=sub1 _ _ a1
 unfold lO
 rw [this]
 simpa using hv
theorem sp_as (b c d:Nat) (p:Ptr):Sp prog va [dF b,.iface bE (.pointer (some ⟨c,0,none⟩)),vlV bE d 150,rtV bg] aB
  [blk c bg [pv p],blk d bE [pv (some (c,0))]] (fun r=>pa_ (r = true) [blk c bg [pv (some (b,0))]]):=by
 intro h st
 refine sim_errors_as _ _ _ _ ?_
 unfold sh_errors_as
 refine ⟨fun s h=>s = dF b/\az [blk c bg [pv p],blk d bE [pv (some (c,0))]] h,fun _ _=>0,⟨rfl,st⟩,?_⟩
 rintro _ h1 ⟨rfl,s1⟩
 unfold ye
 refine uc (rtV bg) (fun K h=>x7 b K h) ?_
 refine uc true (fun K h=>x14 K h) (dU rfl ?_)
 refine c23 (blk_cell (i:=1) rfl rfl s1) ?_
 refine c8' fun e he=>?_
 have s2:az (blk e bg [pv (some (b,0))]::_) _:=new_s (o:=.cells #[pv (some (b,0))] bg (0,0)) s1 he
 refine c24 (blk_cell (i:=0) (T:=bg) (c:=[pv (some (b,0))]) rfl rfl s2) ?_
 obtain ⟨g2,a2,sub2⟩:=eI (i:=1) (A:=blk c bg [pv p]) rfl s2
 refine hp_storeCells _ 0 0 [pv p] _ (sub2 _ _ a2) (by simp) rfl ?_
 have s3:az (_::blk c bg [pv (some (b,0))]::_) _:=obj_set (o':=.cells #[pv (some (b,0))] bg (0,0)) (i:=1) s2 rfl
 exact aY rfl (bX (l:=[_,_]) (bc [0,1] s3 rfl))
theorem sp_As (b c:Nat) (p:Ptr):Sp prog vb [dF b,.iface bE (.pointer (some ⟨c,0,none⟩))] aB
  [(etB ET EF),blk c bg [pv p]] (fun r=>pa_ (r = true) [(etB ET EF),blk c bg [pv (some (b,0))]]):=by
 intro h st
 refine sim_errors_As _ _ ?_
 unfold xG
 refine fR false (en_0 b _) (dy rfl ?_)
 refine fR false (en_1 c _) (dy rfl ?_)
 unfold yh
 refine c8 fun e he=>?_
 have s2:az (blk e bE [pv (some (c,0))]::_) _:=new_s (o:=.cells #[pv (some (c,0))] bE (0,0)) st he
 refine uc (rtV bE) (fun K h=>x15 K h e) ?_
 refine uc 22 (fun K h=>x10 K h) (dU rfl ?_)
 refine c22 (blk_cell (i:=0) (T:=bE) (c:=[pv (some (c,0))]) rfl rfl s2) (dy rfl ?_)
 unfold yg
 refine uc (rtV bg) (fun K h=>x11 K h) ?_
 refine uc 22 (fun K h=>x12 K h) (dU rfl ?_)
 obtain ⟨g3,a3,sub3⟩:=eI (i:=1) (A:=etB ET EF) rfl s2
 refine ⟨rtV gL,⟨_,_,_,sub3 _ _ a3,fun i v hv=>?_⟩,?_⟩
 ·rcases i with _ | i <;> first | exact hv | simp [cV] at hv
 refine uc true (fun K h=>x17 K h) (dy rfl ?_)
 unfold sV
 refine cW [2,0,1] (rest:=[(etB ET EF)]) (sp_as b c e p) s2 rfl fun r h' s3=>?_
 obtain ⟨rfl,s4⟩:=bp.1 s3
 exact aY rfl (bc [1,0] s4 rfl)
abbrev firstOf (b:Nat):Ptr × Bool:=(some (b,0),true)
theorem sp_First (b:Nat):Sp prog kG [dF b] eZ [(etB ET EF)] (fun r=>pa_ (r = firstOf b) [(etB ET EF)]):=by
 intro h st
 refine sim_trap_First _ ?_
 unfold vD
 refine py st fun c h1 s1=>?_
 refine fR (.iface bE (.pointer (some ⟨c,0,none⟩))) (fun K h=>by kernel_rfl) ?_
 refine cW [1,0] (rest:=[]) (sp_As b c none) s1 rfl fun r h' s2=>?_
 obtain ⟨rfl,s3⟩:=bp.1 s2
 refine dU rfl ?_
 refine bo (some (b,0)) s3 (i:=1) rfl rfl rfl ?_
 unfold nr
 refine dy rfl ?_
 refine bo (some (b,0)) s3 (i:=1) rfl rfl rfl ?_
 exact aY rfl (bX (l:=[_]) (bc [1] s3 rfl))
theorem sp_First_nil:Sp prog kG [Value.nilIface] eZ [] (fun r=>pa_ (r = (none,false)) []):=by
 intro h st
 refine sim_trap_First _ ?_
 unfold vD
 refine py st fun c h1 s1=>?_
 refine fR (.iface bE (.pointer (some ⟨c,0,none⟩))) (fun K h=>by kernel_rfl) ?_
 refine uo (sp_As_nil _) s1 fun r h' hr s2=>?_
 subst hr
 refine dy rfl ?_
 unfold nr
 exact dU rfl (aY rfl trivial)
theorem sp_Of (n:Int) (hn:n ≠ 0):Sp prog la [.int .i64 n] iS [] (fun r=>ex fun b=>pa_ (r = dF b) [trB b ⟨n,-1,⟨0,0,0,0,0⟩,.nilIface⟩]):=by
 intro h st
 refine sim_trap_Of _ ?_
 unfold sh_trap_Of
 refine dy (by simpa using hn) ?_
 refine py st fun b h1 s1=>?_
 refine fR (dF b) (fun K h=>by kernel_rfl) ?_
 exact ⟨b,aY rfl s1⟩
theorem sp_Of0:Sp prog la [.int .i64 0] iS [] (fun r=>pa_ (r = Value.nilIface) []):=by
 intro h st
 refine sim_trap_Of _ ?_
 unfold sh_trap_Of
 exact dU rfl (aY rfl st)
theorem sp_Code (b:Nat) (t:bY):Sp prog uY [dF b] bi [(etB ET EF),trB b t] (fun r=>pa_ (r = t.fDb) [(etB ET EF),trB b t]):=by
 intro h st
 refine sim_trap_Code _ ?_
 unfold sh_trap_Code
 refine fR false (en_0 b _) (dy rfl ?_)
 refine bO (i:=0) (sp_First b) rfl st fun r h' hr s2=>?_
 subst hr
 refine dU rfl (cN ?_)
 refine bo t.fDb s2 (i:=1) rfl rfl rfl ?_
 exact aY rfl s2
theorem sp_In (env:Int) (c:ah) (b:Nat) (t:bY):Sp prog n_trap_In [.int .i64 env,.agg (ah.C c).toArray,dF b] iS [(etB ET EF),trB b t]
  (fun r=>ex fun e=>pa_ (r = dF e) [trB e ⟨t.fDb,env,c,dF b⟩,(etB ET EF),trB b t]):=by
 intro h st
 refine sim_trap_In _ _ _ ?_
 unfold sh_trap_In
 refine fR false (en_0 b _) (dy rfl ?_)
 refine cW [] (rest:=[]) (sp_Code b t) st (List.append_nil _).symm fun r h' s2=>?_
 obtain ⟨rfl,s3⟩:=bp.1 s2
 refine fR ⟨t.fDb,env,c,dF b⟩ (fun K h=>by kernel_rfl) ?_
 refine py s3 fun e h1 s4=>?_
 refine fR (dF e) (fun K h=>by kernel_rfl) ?_
 exact ⟨e,aY rfl s4⟩
theorem sp_Depth2 (b e:Nat) (t u:bY) (ht:t.fWa = dF e) (hu:u.fWa = Value.nilIface):Sp prog xO [dF b] eE [(etB ET EF),trB b t,trB e u] (fun r=>pa_ (r = 2) [(etB ET EF),trB b t,trB e u]):=by
 intro h st
 refine sim_trap_Depth _ ?_
 unfold sh_trap_Depth
 refine bO (i:=0) (sp_First b) rfl st fun r h' hr s2=>?_
 subst hr
 refine ⟨fun s h=>(s = (0,some (b,0),true)\/s = (1,some (e,0),true)\/s = (2,none,false))/\az [(etB ET EF),trB b t,trB e u] h,fun s _=>3 - s.1.toNat,⟨.inl rfl,s2⟩,?_⟩
 rintro s h1 ⟨rfl | rfl | rfl,s3⟩
 ·unfold ns
  refine dU rfl (cN ?_)
  refine bo t.fWa s3 (i:=1) rfl rfl rfl ?_
  rw [ht]
  refine bO (i:=0) (sp_First e) rfl s3 fun r h' hr s4=>?_
  subst hr
  exact ⟨⟨.inr (.inl rfl),s4⟩,Nat.le_of_ble_eq_true rfl⟩
 ·unfold ns
  refine dU rfl (cN ?_)
  refine bo u.fWa s3 (i:=2) rfl rfl rfl ?_
  rw [hu]
  refine uo sp_First_nil s3 fun r h' hr s4=>?_
  subst hr
  exact ⟨⟨.inr (.inr rfl),s4⟩,Nat.le_of_ble_eq_true rfl⟩
 ·unfold ns
  exact dy rfl (aY rfl s3)
end
section
open Go Mb
def sh_strconv_Itoa (a0:Int) (K:ByteArray->Hp->Prop):Hp->Prop:=cl prog jX [(.int .i64 a0)] eA fun r4=>K r4
theorem sim_strconv_Itoa (a0:Int) {K:ByteArray->Hp->Prop} {h:Hp} (H:sh_strconv_Itoa a0 K h):cl prog tK [(.int .i64 a0)] eA K h:=z_i func207 p p fun _=>O<|U p<|O<|M p<|aa<|D H en_208 fun r4 _ H1=>U p<|aj<|Z ⟨r4,p,H1⟩
end
section
open Go Mb
def mZ (a0:Int) (K:ByteArray->Hp->Prop):Hp->Prop:=br (decide (a0 < 10)) ( hpv prog (Instr.sliceAt vW (.string str_73df774b) (some (.int .i64 a0)) (some (.int .i64 (i64.wrap (a0 + 1)))) none) eA fun (v8:ByteArray)=>K v8) ( hpv prog (Instr.sliceAt vW (.string str_e9752c08) (some (.int .i64 (i64.wrap (a0 * 2)))) (some (.int .i64 (i64.wrap ((i64.wrap (a0 * 2)) + 2)))) none) eA fun (v14:ByteArray)=>K v14)
theorem tq (a0:Int) {K:ByteArray->Hp->Prop} {h:Hp} (H:mZ a0 K h):cl prog jD [(.int .i64 a0)] eA K h:=z_i func210 p p fun _=>O<|U p<|al<|O<|M p<|J (ci p p)<|ad<|aw p H (fun k1 H2=>O<|M p<|M p<|J (bj p p)<|aa<|aR H2 (fI p p p p p) p fun v8 _ H3=>U p<|aj<|Z ⟨v8,p,H3⟩) fun k1 H2=>an<|O<|M p<|J (v_mul p p)<|M p<|J (v_mul p p)<|J (bj p p)<|aa<|aR H2 (fI p p p p p) p fun v14 _ H4=>U p<|aj<|Z ⟨v14,p,H4⟩
def gE (a0:Int) (K:ByteArray->Hp->Prop) (b5:Nat) (s9:Int):Hp->Prop:=cl prog rQ [(.int .u64 s9)] eE fun r27=>hpv prog (Instr.sliceAt xf (.pointer (some ⟨b5,0,none⟩)) (some (.int .i64 1)) (some (.int .i64 (i64.wrap (1 + r27)))) none) R_Suint8 fun (v30:Sl)=>cl prog pW [(sv v30),(.int .u64 s9)] R_ fun (_:Unit)=>br (decide (a0 < 0)) ( st (b5,0) [.int .u8 45]<|hpv prog (Instr.sliceAt xf (.pointer (some ⟨b5,0,none⟩)) none (some (.int .i64 (i64.wrap (1 + r27)))) none) R_Suint8 fun (v38:Sl)=>hpv prog (convert 293 9 (sv v38)) eA fun (v39:ByteArray)=>K v39) ( hpv prog (Instr.sliceAt xf (.pointer (some ⟨b5,0,none⟩)) (some (.int .i64 1)) (some (.int .i64 (i64.wrap (1 + r27)))) none) R_Suint8 fun (v42:Sl)=>hpv prog (convert 293 9 (sv v42)) eA fun (v43:ByteArray)=>K v43)
def ky (a0:Int) (a1:Int) (K:ByteArray->Hp->Prop):Hp->Prop:=br (a1 == 10) ( br ((decide (0 <= a0)) && (decide (a0 < 100))) ( cl prog jD [(.int .i64 a0)] eA fun r19=>K r19) ( nw xf [.int .u8 0,.int .u8 0,.int .u8 0,.int .u8 0,.int .u8 0,.int .u8 0,.int .u8 0,.int .u8 0,.int .u8 0,.int .u8 0,.int .u8 0,.int .u8 0,.int .u8 0,.int .u8 0,.int .u8 0,.int .u8 0,.int .u8 0,.int .u8 0,.int .u8 0,.int .u8 0,.int .u8 0,.int .u8 0,.int .u8 0,.int .u8 0] fun b5=>br (decide (a0 < 0)) ( gE a0 K b5 (u64.wrap (0 - (u64.wrap a0)))) ( gE a0 K b5 (u64.wrap a0)))) ( cl prog rA [(sv (⟨none,0,0,none⟩:Sl)),(.int .u64 (u64.wrap a0)),(.int .i64 a1),(.bool (decide (a0 < 0))),(.bool false)] R_Suint8_string fun r50=>K r50.2)
theorem qB (a0:Int) (a1:Int) {K:ByteArray->Hp->Prop} {h:Hp} (H:ky a0 a1 K h):cl prog gU [(.int .i64 a0),(.int .i64 a1)] eA K h:=z_i func209 p p fun _=>O<|U p<|al<|O<|M p<|J (bP p p)<|ad<|aw p H (fun k1 H2=>al<|O<|M p<|J (v_le p p)<|M p<|W p p (ax _) (fun g3=>wv<|ai p)<|W p p (ax _) (fun g4=>wv<|ci (aC p g4) p)<|J (bN p p)<|ad<|aw p H2 (fun k5 H6=>O<|M p<|aa<|D H6 en_210 fun r19 _ H7=>U p<|aj<|Z ⟨r19,p,H7⟩) fun k5 H6=>an<|O<|aa<|to_alloc zero_290 p p H6 fun b5 _ H8=>ad<|O<|M p<|J (dv ⟨_,underlying2⟩ underlying22 p)<|U p<|eC (gE a0 K b5) (fun s9=>[(0,(.int .i64 a0)),(5,(.pointer (some ⟨b5,0,none⟩))),(6,(.int .u64 s9))]) (fun s9=>[]) (O<|M p<|J (ci p p)<|ad<|aw p H8 (fun k21 H22=>ap<|M p<|J (v_neg p)<|U p<|cE (u64.wrap (0 - (u64.wrap a0))) H22 (.cons p<|.cons p<|.cons p<|.nil _) .slnil) fun k21 H22=>an<|cE (u64.wrap a0) H22 (.cons p<|.cons p<|.cons p<|.nil _) .slnil) fun s9 _ H10=>O<|M p<|aa<|D H10 en_211 fun r27 _ H11=>U p<|O<|M p<|J (bj p p)<|aa<|aR H11 (fI p p p p p) p fun v30 _ H12=>M p<|aa<|D H12 en_212 fun r32 _ H13=>ad<|al<|O<|M p<|J (ci p p)<|ad<|aw p H13 (fun k14 H15=>O<|J (bC arr_290 p p (by decide))<|aa<|dr inf_5 p p p p p H15 fun _ H16=>ad<|O<|M p<|J (bj p p)<|aa<|aR H16 (fI p p p p p) p fun v38 _ H17=>aa<|aR H17 (x_convert p) p fun v39 _ H18=>U p<|aj<|Z ⟨v39,p,H18⟩) fun k14 H15=>an<|O<|M p<|J (bj p p)<|aa<|aR H15 (fI p p p p p) p fun v42 _ H19=>aa<|aR H19 (x_convert p) p fun v43 _ H20=>U p<|aj<|Z ⟨v43,p,H20⟩) fun k1 H2=>an<|O<|M p<|J (dv ⟨_,underlying2⟩ underlying22 p)<|M p<|M p<|J (ci p p)<|aa<|D H2 en_213 fun r50 _ H23=>M p<|J (ak p p)<|J (ak p p)<|J (au p)<|U p<|O<|M p<|U p<|aj<|Z ⟨r50.2,p,H23⟩
def nB (a0:Int) (K:ByteArray->Hp->Prop):Hp->Prop:=cl prog gU [(.int .i64 a0),(.int .i64 10)] eA fun r4=>K r4
theorem uk (a0:Int) {K:ByteArray->Hp->Prop} {h:Hp} (H:nB a0 K h):cl prog jX [(.int .i64 a0)] eA K h:=z_i func208 p p fun _=>O<|U p<|O<|M p<|aa<|D H en_209 fun r4 _ H1=>U p<|aj<|Z ⟨r4,p,H1⟩
end
section
open Go Mb
def qe (K:Bool->Hp->Prop):Hp->Prop:=cl prog la [(.int .i64 3)] iS fun r5=>cl prog n_trap_In [(.int .i64 2),(.agg (ah.C (⟨1,2,0,0,0⟩:ah)).toArray),r5] iS fun r6=>cl prog kG [r6] eZ fun r9=>hpv prog (do eqGuard .eql 150 (.tmp 12) (.const Value.nilIface) r6 Value.nilIface; binOp .eql 150 r6 Value.nilIface:Sem Value) aB fun (v13:Bool)=>br (v13 || r9.1.isNone) ( K false) ( br r9.2 ( nn r9.1 fun q21=>ld (q21.1,q21.2 + 1) (cI .i64) fun x23=>br (x23 == 2) ( ld (q21.1,q21.2 + 2) ah.C fun x30=>br (ah.eqb x30 (⟨1,2,0,0,0⟩:ah)) ( ld (q21.1,q21.2 + 0) (cI .i64) fun x38=>br (x38 == 3) ( cl prog uY [r6] bi fun r43=>br (r43 == 3) ( cl prog xO [r6] eE fun r48=>br (r48 == 2) ( cl prog la [(.int .i64 3)] iS fun r53=>cl prog oC [r6,r53] aB fun r54=>br r54 ( cl prog la [(.int .i64 4)] iS fun r58=>cl prog oC [r6,r58] aB fun r59=>br (!r59) ( cln prog (callMethod r6 "Error" #[]) eA fun (v64:ByteArray)=>hpv prog (do eqGuard .eql 9 (.tmp 64) (.const (.string oV)) (.string v64) (.string oV); binOp .eql 9 (.string v64) (.string oV):Sem Value) aB fun (v65:Bool)=>br v65 ( cl prog la [(.int .i64 0)] iS fun r68=>hpv prog (do eqGuard .eql 150 (.tmp 68) (.const Value.nilIface) r68 Value.nilIface; binOp .eql 150 r68 Value.nilIface:Sem Value) aB fun (v69:Bool)=>K v69) ( K false)) ( K false)) ( K false)) ( K false)) ( K false)) ( K false)) ( K false)) ( K false)) ( K false))
theorem xx {K:Bool->Hp->Prop} {h:Hp} (H:qe K h):cl prog mc [] aB K h:=z_i func172 p p fun _=>O<|U p<|O<|J (aZ p<|io 1 2)<|aa<|D H en_92 fun r5 _ H1=>aa<|D H1 en_130 fun r6 _ H2=>U p<|O<|M p<|aa<|D H2 en_171 fun r9 _ H3=>M p<|J (ak p p)<|J (ak p p)<|J (au p)<|U p<|al<|O<|M p<|aa<|aR H3 (gJ p p) p fun v13 _ H4=>M p<|W p p (aM _) (fun g5=>wv<|ai p)<|W p p (aM _) (fun g6=>wv<|cx underlying208<|aC p g6)<|J (dC p p)<|ad<|aw p H4 (fun k7 H8=>O<|U p<|aj<|Z ⟨false,p,H8⟩) fun k7 H8=>an<|O<|M p<|M p<|W p p (ax _) (fun g9=>wv<|ai p)<|bV H8 (fun k11 H12=>bI H12 fun q21 e13 H14=>G (F k11)<|z_p (aJ<|aH (aC p k11)<|aq e13)<|G (F k11)<|z_p (ae fld_210_1 p)<|G (F k11)<|aV H14 ba p (fun _=>p) p fun x23 H15=>G (F k11)<|z_p (bP p p)<|J (aU p k11 p)<|M p<|W p p (ax _) (fun g16=>wv<|ai<|aH p<|aq e13)<|W p p (ax _) (fun g17=>wv<|aJ<|aC p g17)<|W p p (ax _) (fun g18=>wv<|ae fld_210_2<|aC p g18)<|bV H15 (fun k20 H21=>G (F k20)<|gx H21 eY (aC p k20) (fun _=>p) p fun x30 H22=>G (F k20)<|z_p (aZ p<|io 1 2)<|G (F k20)<|z_p (v_eqA eqg_30 (eqr_30 9998 _ _) p p)<|J (aU p k20 p)<|M p<|W p p (ax _) (fun g23=>wv<|ai<|aH p<|aq e13)<|W p p (ax _) (fun g24=>wv<|aJ<|aC p g24)<|W p p (ax _) (fun g25=>wv<|ae wM<|aC p g25)<|bV H22 (fun k27 H28=>G (F k27)<|aV H28 nC (aC p k27) (fun _=>p) p fun x38 H29=>G (F k27)<|z_p (bP p p)<|J (aU p k27 p)<|M p<|W p p (ax _) (fun g30=>wv<|ai p)<|bV H29 (fun k32 H33=>G (F k32)<|gK H33 en_155 (aS (aC p k32) bT) p fun r43 _ H34=>G (F k32)<|z_p (bP p p)<|J (aU p k32 p)<|M p<|W p p (ax _) (fun g35=>wv<|ai p)<|bV H34 (fun k37 H38=>G (F k37)<|gK H38 en_178 (aS (aC p k37) bT) p fun r48 _ H39=>G (F k37)<|z_p (bP p p)<|J (aU p k37 p)<|M p<|W p p (ax _) (fun g40=>wv<|ai p)<|bV H39 (fun k42 H43=>G (F k42)<|D H43 en_92 fun r53 _ H44=>G (F k42)<|gK H44 en_91 (aS (aC p k42)<|aS p bT) p fun r54 _ H45=>J (aU p k42 p)<|M p<|W p p (ax _) (fun g46=>wv<|ai p)<|bV H45 (fun k48 H49=>G (F k48)<|D H49 en_92 fun r58 _ H50=>G (F k48)<|gK H50 en_91 (aS (aC p k48)<|aS p bT) p fun r59 _ H51=>G (F k48)<|z_p (cu p)<|J (aU p k48 p)<|M p<|W p p (ax _) (fun g52=>wv<|ai p)<|bV H51 (fun k54 H55=>G (F k54)<|gy H55 (gw (vs:=[]) (aC p k54) p) p fun v64 _ H56=>G (F k54)<|aR H56 (gJ p p) p fun v65 _ H57=>J (aU p k54 p)<|M p<|bV H57 (fun k59 H60=>G (F k59)<|D H60 en_92 fun r68 _ H61=>G (F k59)<|aR H61 (gJ p p) p fun v69 _ H62=>J (aU p k59 p)<|U p<|aj<|Z ⟨v69,p,H62⟩) fun k59 H60=>Y (aT k59)<|Y (aT k59)<|J (ar p k59 p)<|U p<|aj<|Z ⟨false,p,H60⟩) fun k54 H55=>Y (aT k54)<|Y (aT k54)<|J (ar p k54 p)<|M p<|Y p<|Y p<|J (ar p p p)<|U p<|aj<|Z ⟨false,p,H55⟩) fun k48 H49=>Y (aT k48)<|Y (aT k48)<|Y (aT k48)<|J (ar p k48 p)<|M p<|Y p<|Y p<|Y p<|J (ar p p p)<|M p<|Y p<|Y p<|J (ar p p p)<|U p<|aj<|Z ⟨false,p,H49⟩) fun k42 H43=>Y (aT k42)<|Y (aT k42)<|J (ar p k42 p)<|M p<|Y p<|Y p<|Y p<|Y p<|J (ar p p p)<|M p<|Y p<|Y p<|Y p<|J (ar p p p)<|M p<|Y p<|Y p<|J (ar p p p)<|U p<|aj<|Z ⟨false,p,H43⟩) fun k37 H38=>Y (aT k37)<|Y (aT k37)<|J (ar p k37 p)<|M p<|Y p<|Y p<|Y p<|J (ar p p p)<|M p<|Y p<|Y p<|Y p<|Y p<|J (ar p p p)<|M p<|Y p<|Y p<|Y p<|J (ar p p p)<|M p<|Y p<|Y p<|J (ar p p p)<|U p<|aj<|Z ⟨false,p,H38⟩) fun k32 H33=>Y (aT k32)<|Y (aT k32)<|J (ar p k32 p)<|M p<|Y p<|Y p<|Y p<|J (ar p p p)<|M p<|Y p<|Y p<|Y p<|J (ar p p p)<|M p<|Y p<|Y p<|Y p<|Y p<|J (ar p p p)<|M p<|Y p<|Y p<|Y p<|J (ar p p p)<|M p<|Y p<|Y p<|J (ar p p p)<|U p<|aj<|Z ⟨false,p,H33⟩) fun k27 H28=>Y (aT k27)<|Y (aT k27)<|J (ar p k27 p)<|M p<|Y p<|Y p<|Y p<|J (ar p p p)<|M p<|Y p<|Y p<|Y p<|J (ar p p p)<|M p<|Y p<|Y p<|Y p<|J (ar p p p)<|M p<|Y p<|Y p<|Y p<|Y p<|J (ar p p p)<|M p<|Y p<|Y p<|Y p<|J (ar p p p)<|M p<|Y p<|Y p<|J (ar p p p)<|U p<|aj<|Z ⟨false,p,H28⟩) fun k20 H21=>Y (aT k20)<|Y (aT k20)<|Y (aT k20)<|J (ar p k20 p)<|M p<|Y p<|Y p<|Y p<|Y p<|Y p<|J (ar p p p)<|M p<|Y p<|Y p<|Y p<|J (ar p p p)<|M p<|Y p<|Y p<|Y p<|J (ar p p p)<|M p<|Y p<|Y p<|Y p<|J (ar p p p)<|M p<|Y p<|Y p<|Y p<|Y p<|J (ar p p p)<|M p<|Y p<|Y p<|Y p<|J (ar p p p)<|M p<|Y p<|Y p<|J (ar p p p)<|U p<|aj<|Z ⟨false,p,H21⟩) fun k11 H12=>Y (aT k11)<|Y (aT k11)<|Y (aT k11)<|Y (aT k11)<|J (ar p k11 p)<|M p<|Y p<|Y p<|Y p<|Y p<|Y p<|Y p<|J (ar p p p)<|M p<|Y p<|Y p<|Y p<|Y p<|Y p<|J (ar p p p)<|M p<|Y p<|Y p<|Y p<|J (ar p p p)<|M p<|Y p<|Y p<|Y p<|J (ar p p p)<|M p<|Y p<|Y p<|Y p<|J (ar p p p)<|M p<|Y p<|Y p<|Y p<|Y p<|J (ar p p p)<|M p<|Y p<|Y p<|Y p<|J (ar p p p)<|M p<|Y p<|Y p<|J (ar p p p)<|U p<|aj<|Z ⟨false,p,H12⟩
def qf (K:Bool->Hp->Prop):Hp->Prop:=cl prog mc [] aB fun r1=>K r1
theorem xy {K:Bool->Hp->Prop} {h:Hp} (H:qf K h):cl prog me [] aB K h:=z_i func160 p p fun _=>O<|U p<|O<|aa<|D H en_172 fun r1 _ H1=>U p<|aj<|Z ⟨r1,p,H1⟩
end
section
open Go Mb
variable {ET:Nat} {EF:Nat × Nat}
abbrev s3_:ByteArray:=⟨#[51]⟩
theorem sp_small3:Sp prog jD [.int .i64 3] eA [] (fun r=>pa_ (r = s3_) []):=by
 intro h st
 refine tq _ ?_
 unfold mZ
 exact dU rfl (fR s3_ (fun K h=>by kernel_rfl) (aY rfl st))
theorem sp_FormatInt3:Sp prog gU [.int .i64 3,.int .i64 10] eA [] (fun r=>pa_ (r = s3_) []):=by
 intro h st
 refine qB _ _ ?_
 unfold ky
 refine dU rfl (dU rfl (uo sp_small3 st fun r h' hr s2=>?_))
 exact aY hr s2
theorem sp_Itoa3':Sp prog jX [.int .i64 3] eA [] (fun r=>pa_ (r = s3_) []):=by
 intro h st
 refine uk _ ?_
 unfold nB
 exact uo sp_FormatInt3 st fun r h' hr s2=>aY hr s2
theorem sp_Itoa3:Sp prog tK [.int .i64 3] eA [] (fun r=>pa_ (r = s3_) []):=by
 intro h st
 refine sim_strconv_Itoa _ ?_
 unfold sh_strconv_Itoa
 exact uo sp_Itoa3' st fun r h' hr s2=>aY hr s2
abbrev t3_:ByteArray:=⟨#[116,114,97,112,32,51]⟩
theorem sp_Error1 (b:Nat) (t:bY) (hc:t.fDb = 3) (ht:t.fWa = Value.nilIface):Sp prog jm [pv (some (b,0))] eA [trB b t] (fun r=>pa_ (r = t3_) [trB b t]):=by
 intro h st
 refine rY _ ?_
 unfold nQ
 refine dy rfl (cN ?_)
 refine bo t.fDb st (i:=0) rfl rfl rfl ?_
 rw [hc]
 refine uo sp_Itoa3 st fun r h' hr s2=>?_
 subst hr
 refine fR t3_ (fun K h=>by kernel_rfl) ?_
 refine bo t.fWa s2 (i:=0) rfl rfl rfl ?_
 rw [ht]
 refine fR false (fun K h=>by kernel_rfl) (dy rfl ?_)
 exact aY rfl s2
theorem sp_Error2 (b e:Nat) (t u:bY) (hc:t.fDb = 3) (ht:t.fWa = dF e) (hd:u.fDb = 3) (hu:u.fWa = Value.nilIface):Sp prog jm [pv (some (b,0))] eA [trB b t,trB e u] (fun r=>pa_ (r = oV) [trB b t,trB e u]):=by
 intro h st
 refine rY _ ?_
 unfold nQ
 refine dy rfl (cN ?_)
 refine bo t.fDb st (i:=0) rfl rfl rfl ?_
 rw [hc]
 refine uo sp_Itoa3 st fun r h' hr s2=>?_
 subst hr
 refine fR t3_ (fun K h=>by kernel_rfl) ?_
 refine bo t.fWa s2 (i:=0) rfl rfl rfl ?_
 rw [ht]
 refine fR true (fun K h=>by kernel_rfl) (dU rfl ?_)
 refine bo t.fWa s2 (i:=0) rfl rfl rfl ?_
 rw [ht]
 refine cln_en (f:=jm) (vs:=[pv (some (e,0))]) (fun K h=>by kernel_rfl) ?_
 refine bO (i:=1) (sp_Error1 e u hd hu) rfl s2 fun r h' hr s3=>?_
 subst hr
 refine fR ⟨#[58,32,116,114,97,112,32,51]⟩ (fun K h=>by kernel_rfl) ?_
 refine fR oV (fun K h=>by kernel_rfl) ?_
 exact aY rfl s3
theorem star_ne {b d:Nat} {T T':TypeId} {c c':List Value} {l:List As} {h:Hp} (s:az (blk b T c::blk d T' c'::l) h):b ≠ d:=by
 obtain ⟨h1,h2,dj,e,a,h3,h4,dj2,e2,a2,_⟩:=s
 rintro rfl
 have h1b:h1 b = some _:=a
 have h3b:h3 b = some _:=a2
 rcases dj b with x | x
 ·rw [h1b] at x; cases x
 ·rw [e2,un_left h3b] at x; cases x
theorem sp_Trap_Is (b d:Nat) (t w:bY):Sp prog tI [pv (some (b,0)),dF d] aB [trB b t,trB d w] (fun r=>pa_ (r = (t.fDb == w.fDb)) [trB b t,trB d w]):=by
 intro h st
 refine sim_trap_Trap_Is _ _ ?_
 unfold sh_trap_Trap_Is
 refine fR (some (d,0),true) (fun K h=>by kernel_rfl) (dU rfl (dU rfl (dU rfl (cN (cN ?_)))))
 refine bo t.fDb st (i:=0) rfl rfl rfl ?_
 refine bo w.fDb st (i:=1) rfl rfl rfl ?_
 exact aY rfl st
theorem sp_Unwrap (b:Nat) (t:bY):Sp prog nS [pv (some (b,0))] encV [trB b t] (fun r=>pa_ (r = t.fWa) [trB b t]):=by
 intro h st
 refine sim_trap_Trap_Unwrap _ ?_
 unfold rZ
 refine dy rfl (cN ?_)
 refine bo t.fWa st (i:=0) rfl rfl rfl ?_
 exact aY rfl st
theorem eq_traps {K:Bool->Hp->Prop} {a b n m:Nat} {t u:bY} {l:List As} {h:Hp} (s:az (trB a t::trB b u::l) h) (k:K false h):hpv prog (do eqGuard .eql 150 (.tmp n) (.tmp m) (dF a) (dF b); binOp .eql 150 (dF a) (dF b):Sem Value) aB K h:=by
 obtain ⟨g1,a1,sub1⟩:=eI (l:=trB a t::trB b u::l) (A:=trB a t) (i:=0) (by rfl) s
 obtain ⟨g2,a2,sub2⟩:=eI (l:=trB a t::trB b u::l) (A:=trB b u) (i:=1) (by rfl) s
 have q1:h a = some (.cells (bY.C t).toArray oo (0,0)):=sub1 _ _ a1
 have q2:h b = some (.cells (bY.C u).toArray oo (0,0)):=sub2 _ _ a2
 have hne:=star_ne s
 have e:(a == b) = false:=by simpa using hne
 constructor
 rw [y6,cZ]
 refine x25 _ _ q1 q2 ?_
 rw [e]
 exact ⟨false,rfl,k⟩
theorem is_step {b d:Nat} {t w:bY} {l:List As} {h:Hp} {K:Bool->Hp->Prop} {Rec:Value->Hp->Prop} (st:az (trB b t::trB d w::l) h)
  (h1:t.fDb = w.fDb->∀ h',az (trB b t::trB d w::l) h'->K true h') (h0:t.fDb ≠ w.fDb->t.fWa = .nilIface->∀ h',az (trB b t::trB d w::l) h'->K false h')
  (h2:t.fDb ≠ w.fDb->∀ e,t.fWa = dF e->∀ h',az (trB b t::trB d w::l) h'->Rec (dF e) h') (hok:t.fWa = .nilIface\/∃ e,t.fWa = dF e):sT (dF d) true K Rec (dF b) h:=by
 unfold sT
 refine dU rfl (eq_traps st (dy rfl ?_))
 refine fR (dF b,true) (fun K h=>by kernel_rfl) (dU rfl ?_)
 refine cln_en (f:=tI) (vs:=[pv (some (b,0)),dF d]) (fun K h=>by kernel_rfl) ?_
 refine cW [] (rest:=l) (sp_Trap_Is b d t w) st rfl fun r h' s2=>?_
 obtain ⟨rfl,s3⟩:=bp.1 s2
 by_cases e:t.fDb = w.fDb
 ·exact dU (by simpa using e) (h1 e _ s3)
 ·refine dy (by simpa using e) ?_
  unfold sU
  refine fR (dF b,true) (fun K h=>by kernel_rfl) (dU rfl ?_)
  refine cln_en (f:=nS) (vs:=[pv (some (b,0))]) (fun K h=>by kernel_rfl) ?_
  refine bO (i:=0) (sp_Unwrap b t) rfl s3 fun r h' hr s4=>?_
  subst hr
  rcases hok with hn | ⟨x,hx⟩
  ·rw [hn]
   refine fR true (en_00 _) (dU rfl (h0 e hn _ ?_))
   simpa using s4
  ·rw [hx]
   refine fR false (en_0 x _) (dy rfl (h2 e x hx _ ?_))
   simpa using s4
theorem sp_is1 (b d:Nat) (t w:bY) (hc:t.fDb = w.fDb) (hok:t.fWa = .nilIface\/∃ e,t.fWa = dF e):Sp prog oB [dF b,dF d,.bool true] aB [trB b t,trB d w] (fun r=>pa_ (r = true) [trB b t,trB d w]):=by
 intro h st
 refine sim_errors_is _ _ _ ?_
 unfold xE
 refine ⟨fun s h=>s = dF b/\az [trB b t,trB d w] h,fun _ _=>0,⟨rfl,st⟩,?_⟩
 rintro _ h1 ⟨rfl,s1⟩
 exact is_step s1 (fun _ h' s2=>aY rfl s2) (fun e=>absurd hc e) (fun e=>absurd hc e) hok
theorem sp_is2 (b e d:Nat) (t u w:bY) (ht:t.fWa = dF e) (hu:u.fWa = .nilIface) (hc:t.fDb ≠ w.fDb) (hd:u.fDb ≠ w.fDb) :
  Sp prog oB [dF b,dF d,.bool true] aB [trB b t,trB e u,trB d w] (fun r=>pa_ (r = false) [trB b t,trB e u,trB d w]):=by
 intro h st
 refine sim_errors_is _ _ _ ?_
 unfold xE
 refine ⟨fun s h=>(s = dF b\/s = dF e)/\az [trB b t,trB e u,trB d w] h,fun s _=>match s with | .iface _ (.pointer (some p))=>if p.block = b then 1 else 0 | _=>0,⟨.inl rfl,st⟩,?_⟩
 have hne:e ≠ b:=fun h=>(star_ne st) h.symm
 rintro _ h1 ⟨rfl | rfl,s1⟩
 ·refine is_step (l:=[trB e u]) (bc [0,1] s1 rfl) (fun x=>absurd x hc) (fun _ x=>by rw [ht] at x; cases x) (fun _ x hx h' s2=>?_) (.inr ⟨e,ht⟩)
  rw [ht] at hx
  rw [← hx]
  exact ⟨⟨.inr rfl,bc [0,1] s2 rfl⟩,by show (if e = b then 1 else 0) < (if b = b then 1 else 0); rw [if_pos rfl,if_neg hne]; exact Nat.one_pos⟩
 ·refine is_step (l:=[trB b t]) (bc [1,1] s1 rfl) (fun x=>absurd x hd) (fun _ _ h' s2=>aY rfl (bc [2,0] s2 rfl)) (fun _ x hx=>by rw [hu] at hx; cases hx) (.inl hu)
theorem sp_Is1 (b d:Nat) (t w:bY) (hc:t.fDb = w.fDb) (hok:t.fWa = .nilIface\/∃ e,t.fWa = dF e):Sp prog oC [dF b,dF d] aB [trB b t,trB d w] (fun r=>pa_ (r = true) [trB b t,trB d w]):=by
 intro h st
 refine sim_errors_Is _ _ ?_
 unfold xF
 refine fR false (en_0 b _) (dU rfl (fR false (en_0 d _) (dy rfl ?_)))
 refine uc (rtV bg) (fun K h=>x7 d K h) ?_
 refine uc true (fun K h=>x13 K h) ?_
 refine cW [] (rest:=[]) (sp_is1 b d t w hc hok) st rfl fun r h' s2=>?_
 obtain ⟨rfl,s3⟩:=bp.1 s2
 exact aY rfl s3
theorem sp_Is2 (b e d:Nat) (t u w:bY) (ht:t.fWa = dF e) (hu:u.fWa = .nilIface) (hc:t.fDb ≠ w.fDb) (hd:u.fDb ≠ w.fDb) :
  Sp prog oC [dF b,dF d] aB [trB b t,trB e u,trB d w] (fun r=>pa_ (r = false) [trB b t,trB e u,trB d w]):=by
 intro h st
 refine sim_errors_Is _ _ ?_
 unfold xF
 refine fR false (en_0 b _) (dU rfl (fR false (en_0 d _) (dy rfl ?_)))
 refine uc (rtV bg) (fun K h=>x7 d K h) ?_
 refine uc true (fun K h=>x13 K h) ?_
 refine cW [] (rest:=[]) (sp_is2 b e d t u w ht hu hc hd) st rfl fun r h' s2=>?_
 obtain ⟨rfl,s3⟩:=bp.1 s2
 exact aY rfl s3
theorem vj {α:Type} {A:α->As} {l:List As} {h:Hp} (s:az (ex A::l) h):∃ x,az (A x::l) h:=by
 obtain ⟨h1,h2,d,e,⟨x,a⟩,s2⟩:=s
 exact ⟨x,h1,h2,d,e,a,s2⟩
abbrev tr3:bY:=⟨3,-1,⟨0,0,0,0,0⟩,.nilIface⟩
abbrev tr4:bY:=⟨4,-1,⟨0,0,0,0,0⟩,.nilIface⟩
abbrev tr32 (e:Nat):bY:=⟨3,2,⟨1,2,0,0,0⟩,dF e⟩
theorem sp_begun1:Sp prog mc [] aB [(etB ET EF)] (fun r=>pa_ (r = true) [(etB ET EF)]):=by
 intro h st
 refine xx ?_
 unfold qe
 refine cW [] (rest:=[(etB ET EF)]) (sp_Of 3 (by decide)) st rfl fun r h1 s1=>?_
 obtain ⟨e,x1⟩:=vj s1
 obtain ⟨rfl,y1⟩:=bp.1 x1
 refine cW [1,0] (rest:=[]) (sp_In 2 ⟨1,2,0,0,0⟩ e tr3) y1 rfl fun r h2 s2=>?_
 obtain ⟨b,x2⟩:=vj s2
 obtain ⟨rfl,y2⟩:=bp.1 x2
 refine bO (i:=1) (sp_First b) rfl y2 fun r h3 hr s3=>?_
 subst hr
 refine fR false (en_0 b _) (dy rfl (dU rfl (cN ?_)))
 refine bo 2 s3 (i:=0) rfl rfl rfl (dU rfl ?_)
 refine ld_s ⟨1,2,0,0,0⟩ s3 (i:=0) rfl (fun j v hj=>?_) (dU rfl ?_)
 ·rcases j with _ | _ | _ | _ | _ | j <;> first | exact hj | (simp [ah.C] at hj)
 refine bo 3 s3 (i:=0) rfl rfl rfl (dU rfl ?_)
 refine cW [1,0] (rest:=[_]) (sp_Code b (tr32 e)) s3 rfl fun r h4 s4=>?_
 obtain ⟨rfl,y4⟩:=bp.1 s4
 refine dU rfl ?_
 refine cW [] (rest:=[]) (sp_Depth2 b e (tr32 e) tr3 rfl rfl) y4 rfl fun r h5 s5=>?_
 obtain ⟨rfl,y5⟩:=bp.1 s5
 refine dU rfl ?_
 refine cW [] (rest:=[_,_,_]) (sp_Of 3 (by decide)) y5 rfl fun r h6 s6=>?_
 obtain ⟨d,x6⟩:=vj s6
 obtain ⟨rfl,y6⟩:=bp.1 x6
 refine cW [2,0] (rest:=[_,_]) (sp_Is1 b d (tr32 e) tr3 rfl (.inr ⟨e,rfl⟩)) y6 rfl fun r h7 s7=>?_
 obtain ⟨rfl,y7⟩:=bp.1 s7
 refine dU rfl ?_
 refine cW [] (rest:=[_,_,_,_]) (sp_Of 4 (by decide)) y7 rfl fun r h8 s8=>?_
 obtain ⟨f,x8⟩:=vj s8
 obtain ⟨rfl,y8⟩:=bp.1 x8
 refine cW [1,3,0] (rest:=[_,_]) (sp_Is2 b e f (tr32 e) tr3 tr4 rfl rfl (show (3:Int) ≠ 4 by decide) (show (3:Int) ≠ 4 by decide)) y8 rfl fun r h9 s9=>?_
 obtain ⟨rfl,y9⟩:=bp.1 s9
 refine dU rfl ?_
 refine cln_en (f:=jm) (vs:=[pv (some (b,0))]) (fun K h=>by kernel_rfl) ?_
 refine cW [] (rest:=[_,_,_]) (sp_Error2 b e (tr32 e) tr3 rfl rfl rfl rfl) y9 rfl fun r h10 s10=>?_
 obtain ⟨rfl,y10⟩:=bp.1 s10
 refine fR true (fun K h=>by kernel_rfl) (dU rfl ?_)
 refine uo sp_Of0 y10 fun r h11 hr s11=>?_
 subst hr
 refine fR true (en_00 _) ?_
 exact aY rfl (bX (l:=[_,_,_,_]) s11)
end
section
open Go Mb
def sh_cell_New (a0:Int) (K:Ptr->Hp->Prop):Hp->Prop:=nw rh (oO.C (⟨a0,0⟩:oO)) fun b5=>K (some (b5,0))
theorem sim_cell_New (a0:Int) {K:Ptr->Hp->Prop} {h:Hp} (H:sh_cell_New a0 K h):cl prog tP [(.int .u64 a0)] pS K h:=z_i func156 p p fun _=>O<|U p<|O<|M p<|J (aZ p<|build_248_0 a0)<|aa<|iC p p p H fun b5 _ H1=>U p<|aj<|Z ⟨some (b5,0),p,H1⟩
def sh_cell_Cell_Up (a0:Ptr) (a1:Int) (K:(Int × Bool)->Hp->Prop):Hp->Prop:=br a0.isNone ( K (0,false)) ( nn a0 fun q9=>ld (q9.1,q9.2 + 1) (cI .i64) fun x11=>st (q9.1,q9.2 + 1) [.int .i64 (i64.wrap (x11 + 1))]<|ld (q9.1,q9.2 + 0) (cI .u64) fun x18=>br (decide (x18 >= a1)) ( ld (q9.1,q9.2 + 0) (cI .u64) fun x24=>K (x24,false)) ( ld (q9.1,q9.2 + 0) (cI .u64) fun x28=>st (q9.1,q9.2 + 0) [.int .u64 (u64.wrap (x28 + 1))]<|ld (q9.1,q9.2 + 0) (cI .u64) fun x35=>K (x35,true)))
theorem sim_cell_Cell_Up (a0:Ptr) (a1:Int) {K:(Int × Bool)->Hp->Prop} {h:Hp} (H:sh_cell_Cell_Up a0 a1 K h):cl prog pH [(pv a0),(.int .u64 a1)] bK K h:=z_i func158 p p fun _=>O<|J (au p)<|U p<|al<|O<|M p<|J (cx underlying227 p)<|ad<|aw p H (fun k1 H2=>O<|J (au p)<|U p<|aj<|bB (bS p (bZ p)<|bZ p) ⟨(0,false),p,H2⟩) fun k1 H2=>an<|O<|M p<|bI H2 fun q9 e3 H4=>J (aJ<|aH p<|aq e3)<|J (ae te p)<|aa<|aV H4 ba p (fun _=>p) p fun x11 H5=>J (bj p p)<|J (aJ<|aH p<|aq e3)<|J (ae te p)<|aa<|dr mn p p p p p H5 fun _ H6=>ad<|al<|O<|M (aH p<|aq e3)<|J (aJ p)<|J (ae oH p)<|aa<|aV H6 cG p (fun _=>p) p fun x18 H7=>M p<|J (kr p p)<|ad<|aw p H7 (fun k8 H9=>O<|M (aH p<|aq e3)<|J (aJ p)<|J (ae oH p)<|aa<|aV H9 cG p (fun _=>p) p fun x24 H10=>J (au p)<|U p<|aj<|bB (bS p (bZ p)<|bZ p) ⟨(x24,false),p,H10⟩) fun k8 H9=>an<|O<|M (aH p<|aq e3)<|J (aJ p)<|J (ae oH p)<|aa<|aV H9 cG p (fun _=>p) p fun x28 H11=>J (bj p p)<|J (aJ p)<|J (ae oH p)<|aa<|dr inf_22 p p p p p H11 fun _ H12=>ad<|O<|M (aH p<|aq e3)<|J (aJ p)<|J (ae oH p)<|aa<|aV H12 cG p (fun _=>p) p fun x35 H13=>J (au p)<|U p<|aj<|bB (bS p (bZ p)<|bZ p) ⟨(x35,true),p,H13⟩
def uP (a0:Ptr) (K:Int->Hp->Prop):Hp->Prop:=br a0.isNone ( K 0) ( nn a0 fun q6=>ld (q6.1,q6.2 + 1) (cI .i64) fun x8=>st (q6.1,q6.2 + 1) [.int .i64 (i64.wrap (x8 + 1))]<|ld (q6.1,q6.2 + 0) (cI .u64) fun x15=>K x15)
theorem sim_cell_Cell_Load (a0:Ptr) {K:Int->Hp->Prop} {h:Hp} (H:uP a0 K h):cl prog mS [(pv a0)] hO K h:=z_i func173 p p fun _=>O<|U p<|al<|O<|M p<|J (cx underlying227 p)<|ad<|aw p H (fun k1 H2=>O<|U p<|aj<|Z ⟨0,p,H2⟩) fun k1 H2=>an<|O<|M p<|bI H2 fun q6 e3 H4=>J (aJ<|aH p<|aq e3)<|J (ae te p)<|aa<|aV H4 ba p (fun _=>p) p fun x8 H5=>J (bj p p)<|J (aJ<|aH p<|aq e3)<|J (ae te p)<|aa<|dr mn p p p p p H5 fun _ H6=>ad<|O<|M (aH p<|aq e3)<|J (aJ p)<|J (ae oH p)<|aa<|aV H6 cG p (fun _=>p) p fun x15 H7=>U p<|aj<|Z ⟨x15,p,H7⟩
def ww (a0:Ptr) (a1:Int) (a2:Int) (K:Bool->Hp->Prop):Hp->Prop:=br a0.isNone ( K false) ( nn a0 fun q10=>ld (q10.1,q10.2 + 1) (cI .i64) fun x12=>st (q10.1,q10.2 + 1) [.int .i64 (i64.wrap (x12 + 1))]<|ld (q10.1,q10.2 + 0) (cI .u64) fun x19=>br (x19 != a1) ( K false) ( st (q10.1,q10.2 + 0) [.int .u64 a2]<|K true))
theorem sim_cell_Cell_Cas (a0:Ptr) (a1:Int) (a2:Int) {K:Bool->Hp->Prop} {h:Hp} (H:ww a0 a1 a2 K h):cl prog rS [(pv a0),(.int .u64 a1),(.int .u64 a2)] aB K h:=z_i func174 p p fun _=>O<|U p<|al<|O<|M p<|J (cx underlying227 p)<|ad<|aw p H (fun k1 H2=>O<|U p<|aj<|Z ⟨false,p,H2⟩) fun k1 H2=>an<|O<|M p<|bI H2 fun q10 e3 H4=>J (aJ<|aH p<|aq e3)<|J (ae te p)<|aa<|aV H4 ba p (fun _=>p) p fun x12 H5=>J (bj p p)<|J (aJ<|aH p<|aq e3)<|J (ae te p)<|aa<|dr mn p p p p p H5 fun _ H6=>ad<|al<|O<|M (aH p<|aq e3)<|J (aJ p)<|J (ae oH p)<|aa<|aV H6 cG p (fun _=>p) p fun x19 H7=>M p<|J (oS p p)<|ad<|aw p H7 (fun k8 H9=>O<|U p<|aj<|Z ⟨false,p,H9⟩) fun k8 H9=>an<|O<|M (aH p<|aq e3)<|M p<|J (aJ p)<|J (ae oH p)<|aa<|dr inf_22 p p p p p H9 fun _ H10=>ad<|O<|U p<|aj<|Z ⟨true,p,H10⟩
end
section
open Go Mb
def sh_ticket_New (K:Ptr->Hp->Prop):Hp->Prop:=cl prog tP [(.int .u64 0)] pS fun r1=>cl prog tP [(.int .u64 0)] pS fun r2=>nw nv (li.C (⟨r1,r2⟩:li)) fun b4=>K (some (b4,0))
theorem sim_ticket_New {K:Ptr->Hp->Prop} {h:Hp} (H:sh_ticket_New K h):cl prog xP [] uh K h:=z_i func157 p p fun _=>O<|U p<|O<|aa<|D H en_156 fun r1 _ H1=>aa<|D H1 en_156 fun r2 _ H2=>J (aZ p<|build_250_0_1 r1 r2)<|aa<|iC p p p H2 fun b4 _ H3=>U p<|aj<|Z ⟨some (b4,0),p,H3⟩
def se (a0:Ptr) (K:Int->Hp->Prop):Hp->Prop:=br a0.isNone ( K 0) ( nn a0 fun q9=>ld (q9.1,q9.2 + 0) cP fun x11=>cl prog pH [(pv x11),(.int .u64 18446744073709551615)] bK fun r12=>K (u64.wrap (r12.1 - 1)))
theorem sim_ticket_Lock_Draw (a0:Ptr) {K:Int->Hp->Prop} {h:Hp} (H:se a0 K h):cl prog nU [(pv a0)] hO K h:=z_i func159 p p fun _=>O<|U p<|al<|O<|M p<|J (cx underlying229 p)<|ad<|aw p H (fun k1 H2=>O<|U p<|aj<|Z ⟨0,p,H2⟩) fun k1 H2=>an<|O<|M p<|bI H2 fun q9 e3 H4=>J (aJ<|aH p<|aq e3)<|J (ae fld_250_0 p)<|aa<|aV H4 sc_227 p (fun _=>p) p fun x11 H5=>aa<|D H5 en_158 fun r12 _ H6=>M p<|J (ak p p)<|J (ak p p)<|J (au p)<|U p<|O<|M p<|J (iT p p)<|U p<|aj<|Z ⟨u64.wrap (r12.1 - 1),p,H6⟩
def sc (a0:Ptr) (a1:Int) (K:Bool->Hp->Prop):Hp->Prop:=br (!a0.isNone) ( nn a0 fun q9=>ld (q9.1,q9.2 + 1) cP fun x11=>cl prog mS [(pv x11)] hO fun r12=>br (r12 == a1) ( ld (q9.1,q9.2 + 0) cP fun x21=>cl prog mS [(pv x21)] hO fun r22=>K (decide (a1 < r22))) ( K false)) ( K false)
theorem sim_ticket_Lock_Turn (a0:Ptr) (a1:Int) {K:Bool->Hp->Prop} {h:Hp} (H:sc a0 a1 K h):cl prog kH [(pv a0),(.int .u64 a1)] aB K h:=z_i func161 p p fun _=>O<|U p<|O<|M p<|J (v_pneT underlying229 p)<|M p<|W p p (ax _) (fun g1=>wv<|ai p)<|bV H (fun k3 H4=>bI H4 fun q9 e5 H6=>G (F k3)<|z_p (aJ<|aH (aC p k3)<|aq e5)<|G (F k3)<|z_p (ae fld_250_1 p)<|G (F k3)<|aV H6 sc_227 p (fun _=>p) p fun x11 H7=>G (F k3)<|D H7 en_173 fun r12 _ H8=>G (F k3)<|z_p (ai p)<|G (F k3)<|z_p (bP p p)<|J (aU p k3 p)<|M p<|W p p (ax _) (fun g9=>wv<|ai p)<|W p p (ax _) (fun g10=>wv<|ai<|aH p<|aq e5)<|W p p (ax _) (fun g11=>wv<|aJ<|aC p g11)<|W p p (ax _) (fun g12=>wv<|ae fld_250_0<|aC p g12)<|bV H8 (fun k14 H15=>G (F k14)<|aV H15 sc_227 (aC p k14) (fun _=>p) p fun x21 H16=>G (F k14)<|D H16 en_173 fun r22 _ H17=>G (F k14)<|z_p (ci (aC p k14) p)<|J (aU p k14 p)<|U p<|aj<|Z ⟨decide (a1 < r22),p,H17⟩) fun k14 H15=>Y (aT k14)<|Y (aT k14)<|Y (aT k14)<|J (ar p k14 p)<|U p<|aj<|Z ⟨false,p,H15⟩) fun k3 H4=>Y (aT k3)<|Y (aT k3)<|Y (aT k3)<|Y (aT k3)<|Y (aT k3)<|Y (aT k3)<|J (ar p k3 p)<|M p<|Y p<|Y p<|Y p<|Y p<|Y p<|Y p<|Y p<|J (ar p p p)<|U p<|aj<|Z ⟨false,p,H4⟩
def sd (a0:Ptr) (a1:Int) (K:Bool->Hp->Prop):Hp->Prop:=cl prog kH [(pv a0),(.int .u64 a1)] aB fun r7=>br r7 ( nn a0 fun q10=>ld (q10.1,q10.2 + 1) cP fun x12=>cl prog rS [(pv x12),(.int .u64 a1),(.int .u64 (u64.wrap (a1 + 1)))] aB fun r16=>K r16) ( K false)
theorem sim_ticket_Lock_Pass (a0:Ptr) (a1:Int) {K:Bool->Hp->Prop} {h:Hp} (H:sd a0 a1 K h):cl prog nT [(pv a0),(.int .u64 a1)] aB K h:=z_i func162 p p fun _=>O<|U p<|O<|M p<|M p<|aa<|D H en_161 fun r7 _ H1=>M p<|W p p (ax _) (fun g2=>wv<|ai p)<|bV H1 (fun k4 H5=>bI H5 fun q10 e6 H7=>G (F k4)<|z_p (aJ<|aH (aC p k4)<|aq e6)<|G (F k4)<|z_p (ae fld_250_1 p)<|G (F k4)<|aV H7 sc_227 p (fun _=>p) p fun x12 H8=>G (F k4)<|z_p (ai p)<|G (F k4)<|z_p (ai p)<|G (F k4)<|z_p (bj p p)<|G (F k4)<|D H8 en_174 fun r16 _ H9=>J (aU p k4 p)<|U p<|aj<|Z ⟨r16,p,H9⟩) fun k4 H5=>Y (aT k4)<|Y (aT k4)<|Y (aT k4)<|Y (aT k4)<|Y (aT k4)<|Y (aT k4)<|Y (aT k4)<|J (ar p k4 p)<|U p<|aj<|Z ⟨false,p,H5⟩
end
section
open Go Mb
def lB (x:Ptr) (c:Int × Int):As:=fun h=>∃ b:Nat,(x = some (b,0))/\az [blk b rh [.int .u64 c.1,.int .i64 c.2]] h
theorem cell_op {x:Ptr} {c:Int × Int} {l:List As} {h:Hp} (s0:az (lB x c::l) h):∃ b,x = some (b,0)/\az (blk b rh [.int .u64 c.1,.int .i64 c.2]::l) h:=by
 obtain ⟨b,hx,st⟩:=op_ s0
 exact ⟨b,hx,st⟩
theorem cell_cl {b:Nat} {v n:Int} {l:List As} {h:Hp} (st:az (blk b rh [.int .u64 v,.int .i64 n]::l) h):az (lB (some (b,0)) (v,n)::l) h:=cl_ (m:=fun b=>[blk b rh [.int .u64 (v,n).1,.int .i64 (v,n).2]]) b rfl st
namespace Cell
def tick (c:Int × Int):Int × Int:=(c.1,i64.wrap (c.2 + 1))
def cas (c:Int × Int) (o v:Int):Bool × Int × Int:=if c.1 = o then (true,v,(tick c).2) else (false,tick c)
def up (c:Int × Int) (m:Int):(Int × Bool) × Int × Int:=if c.1 >= m then ((c.1,false),tick c) else ((u64.wrap (c.1 + 1),true),(u64.wrap (c.1 + 1),(tick c).2))
end Cell
theorem sp_cell_New (v:Int):Sp prog tP [.int .u64 v] pS [] (fun r=>az [lB r (v,0)]):=by
 intro h st
 refine sim_cell_New _ ?_
 unfold sh_cell_New
 exact py st fun b h' s1=>cell_cl s1
theorem sp_cell_Load (x:Ptr) (c:Int × Int):Sp prog mS [pv x] hO [lB x c] (fun r=>pa_ (r = c.1) [lB x (Cell.tick c)]):=by
 intro h s0
 obtain ⟨b,rfl,st⟩:=cell_op s0
 refine sim_cell_Cell_Load _ ?_
 unfold uP
 refine dy rfl (cN ?_)
 refine bo c.2 st (i:=0) rfl rfl rfl ?_
 refine vu (i:=0) st rfl (le_refl _) fun h2 s2=>?_
 refine bo c.1 s2 (i:=0) rfl rfl rfl ?_
 exact aY rfl (cell_cl s2)
theorem sp_cell_Cas (x:Ptr) (c:Int × Int) (o v:Int):Sp prog rS [pv x,.int .u64 o,.int .u64 v] aB [lB x c] (fun r=>pa_ (r = (Cell.cas c o v).1) [lB x (Cell.cas c o v).2]):=by
 intro h s0
 obtain ⟨b,rfl,st⟩:=cell_op s0
 refine sim_cell_Cell_Cas _ _ _ ?_
 unfold ww
 refine dy rfl (cN ?_)
 refine bo c.2 st (i:=0) rfl rfl rfl ?_
 refine vu (i:=0) st rfl (le_refl _) fun h2 s2=>?_
 refine bo c.1 s2 (i:=0) rfl rfl rfl ?_
 refine aX (fun k=>?_) (fun k=>?_)
 ·have k':¬ c.1 = o:=by simpa using k
  have e:Cell.cas c o v = (false,Cell.tick c):=if_neg k'
  rw [e]
  exact aY rfl (cell_cl s2)
 ·have k':c.1 = o:=by simpa using k
  have e:Cell.cas c o v = (true,v,(Cell.tick c).2):=if_pos k'
  rw [e]
  refine vu (i:=0) s2 rfl (show 0 + 0 + 1 <= 2 by decide) fun h3 s3=>?_
  exact aY rfl (cell_cl s3)
theorem sp_cell_Up (x:Ptr) (c:Int × Int) (m:Int):Sp prog pH [pv x,.int .u64 m] bK [lB x c] (fun r=>pa_ (r = (Cell.up c m).1) [lB x (Cell.up c m).2]):=by
 intro h s0
 obtain ⟨b,rfl,st⟩:=cell_op s0
 refine sim_cell_Cell_Up _ _ ?_
 unfold sh_cell_Cell_Up
 refine dy rfl (cN ?_)
 refine bo c.2 st (i:=0) rfl rfl rfl ?_
 refine vu (i:=0) st rfl (le_refl _) fun h2 s2=>?_
 refine bo c.1 s2 (i:=0) rfl rfl rfl ?_
 refine aX (fun k=>?_) (fun k=>?_)
 ·have k':c.1 >= m:=by simpa using k
  have e:Cell.up c m = ((c.1,false),Cell.tick c):=if_pos k'
  rw [e]
  refine bo c.1 s2 (i:=0) rfl rfl rfl ?_
  exact aY rfl (cell_cl s2)
 ·have k':¬ c.1 >= m:=by simpa using k
  have e:Cell.up c m = ((u64.wrap (c.1 + 1),true),(u64.wrap (c.1 + 1),(Cell.tick c).2)):=if_neg k'
  rw [e]
  refine bo c.1 s2 (i:=0) rfl rfl rfl ?_
  refine vu (i:=0) s2 rfl (show 0 + 0 + 1 <= 2 by decide) fun h3 s3=>?_
  refine bo (u64.wrap (c.1 + 1)) s3 (i:=0) rfl rfl rfl ?_
  exact aY rfl (cell_cl s3)
def vN (x:Ptr) (k:(Int × Int) × (Int × Int)):As:=fun h=>∃ bs:Nat × Ptr × Ptr,(x = some (bs.1,0))/\az [blk bs.1 nv [pv bs.2.1,pv bs.2.2],lB bs.2.1 k.1,lB bs.2.2 k.2] h
theorem lock_op {x:Ptr} {k:(Int × Int) × (Int × Int)} {l:List As} {h:Hp} (s0:az (vN x k::l) h):∃ b p q,x = some (b,0)/\az (blk b nv [pv p,pv q]::lB p k.1::lB q k.2::l) h:=by
 obtain ⟨⟨b,p,q⟩,hx,st⟩:=op_ s0
 exact ⟨b,p,q,hx,st⟩
theorem lock_cl {b:Nat} {p q:Ptr} {k1 k2:Int × Int} {l:List As} {h:Hp} (st:az (blk b nv [pv p,pv q]::lB p k1::lB q k2::l) h):az (vN (some (b,0)) (k1,k2)::l) h :=
 cl_ (m:=fun bs:Nat × Ptr × Ptr=>[blk bs.1 nv [pv bs.2.1,pv bs.2.2],lB bs.2.1 (k1,k2).1,lB bs.2.2 (k1,k2).2]) (b,p,q) rfl st
namespace Lock
abbrev S:=(Int × Int) × (Int × Int)
def draw (k:S):Int × S:=(u64.wrap ((Cell.up k.1 18446744073709551615).1.1 - 1),((Cell.up k.1 18446744073709551615).2,k.2))
def turn (k:S) (t:Int):Bool × S:=if k.2.1 = t then (decide (t < k.1.1),(Cell.tick k.1,Cell.tick k.2)) else (false,(k.1,Cell.tick k.2))
def pass (k:S) (t:Int):Bool × S:=if (turn k t).1 then ((Cell.cas (turn k t).2.2 t (u64.wrap (t + 1))).1,((turn k t).2.1,(Cell.cas (turn k t).2.2 t (u64.wrap (t + 1))).2)) else (false,(turn k t).2)
end Lock
theorem sp_ticket_New:Sp prog xP [] uh [] (fun r=>az [vN r ((0,0),(0,0))]):=by
 intro h st
 refine sim_ticket_New ?_
 unfold sh_ticket_New
 refine cW [] (sp_cell_New 0) st rfl fun p h1 s1=>?_
 refine cW [] (sp_cell_New 0) (dG s1) rfl fun q h2 s2=>?_
 refine py (dG s2) fun b h3 s3=>?_
 exact lock_cl (bc [0,1] s3 rfl)
theorem sp_ticket_Draw (x:Ptr) (k:Lock.S):Sp prog nU [pv x] hO [vN x k] (fun r=>pa_ (r = (Lock.draw k).1) [vN x (Lock.draw k).2]):=by
 intro h s0
 obtain ⟨b,p,q,rfl,st⟩:=lock_op s0
 refine sim_ticket_Lock_Draw _ ?_
 unfold se
 refine dy rfl (cN ?_)
 refine bo p st (i:=0) rfl rfl rfl ?_
 refine cW [1] (sp_cell_Up p k.1 _) st rfl fun r h1 s1=>?_
 obtain ⟨hr,s2⟩:=bp.1 s1
 subst hr
 exact aY rfl (lock_cl (bc [1] s2 rfl))
theorem sp_ticket_Turn (x:Ptr) (k:Lock.S) (t:Int):Sp prog kH [pv x,.int .u64 t] aB [vN x k] (fun r=>pa_ (r = (Lock.turn k t).1) [vN x (Lock.turn k t).2]):=by
 intro h s0
 obtain ⟨b,p,q,rfl,st⟩:=lock_op s0
 refine sim_ticket_Lock_Turn _ _ ?_
 unfold sc
 refine dU rfl (cN ?_)
 refine bo q st (i:=0) rfl rfl rfl ?_
 refine cW [2] (sp_cell_Load q k.2) st rfl fun r h1 s1=>?_
 obtain ⟨hr,s2⟩:=bp.1 s1
 subst hr
 refine aX (fun c=>?_) (fun c=>?_)
 ·have c':k.2.1 = t:=by simpa using c
  have e:Lock.turn k t = (decide (t < k.1.1),(Cell.tick k.1,Cell.tick k.2)):=if_pos c'
  rw [e]
  refine bo p s2 (i:=1) rfl rfl rfl ?_
  refine cW [2] (sp_cell_Load p k.1) s2 rfl fun r h2 s3=>?_
  obtain ⟨hr,s4⟩:=bp.1 s3
  subst hr
  exact aY rfl (lock_cl (bc [2] s4 rfl))
 ·have c':¬ k.2.1 = t:=by simpa using c
  have e:Lock.turn k t = (false,(k.1,Cell.tick k.2)):=if_neg c'
  rw [e]
  exact aY rfl (lock_cl (bc [1,1] s2 rfl))
theorem sp_ticket_Pass (x:Ptr) (k:Lock.S) (t:Int):Sp prog nT [pv x,.int .u64 t] aB [vN x k] (fun r=>pa_ (r = (Lock.pass k t).1) [vN x (Lock.pass k t).2]):=by
 intro h s0
 refine sim_ticket_Lock_Pass _ _ ?_
 unfold sd
 refine cW [0] (sp_ticket_Turn x k t) s0 rfl fun r h1 s1=>?_
 obtain ⟨hr,s2⟩:=bp.1 s1
 subst hr
 refine aX (fun c=>?_) (fun c=>?_)
 ·have e:Lock.pass k t = ((Cell.cas (Lock.turn k t).2.2 t (u64.wrap (t + 1))).1,((Lock.turn k t).2.1,(Cell.cas (Lock.turn k t).2.2 t (u64.wrap (t + 1))).2)):=if_pos c
  rw [e]
  obtain ⟨b,p,q,rfl,st⟩:=lock_op s2
  refine cN (bo q st (i:=0) rfl rfl rfl ?_)
  refine cW [2] (sp_cell_Cas q _ t _) st rfl fun r h2 s3=>?_
  obtain ⟨hr,s4⟩:=bp.1 s3
  subst hr
  exact aY rfl (lock_cl (bc [1,1] s4 rfl))
 ·have e:Lock.pass k t = (false,(Lock.turn k t).2):=by unfold Lock.pass; rw [c]; rfl
  rw [e]
  exact aY rfl s2
end
section
open Go Mb
def qc (K:Bool->Hp->Prop):Hp->Prop:=cl prog wG [(.int .i64 2)] ui fun r24=>cl prog lW [] iQ fun r25=>cl prog iZ [] gV fun r26=>cl prog tM [(.int .i64 3)] pR fun r27=>cl prog tP [(.int .u64 5)] pS fun r28=>cl prog xP [] uh fun r29=>cl prog xQ [(.int .i64 2)] sY fun r30=>br ((((((r24.isNone || r25.isNone) || r26.isNone) || r27.isNone) || r28.isNone) || r29.isNone) || r30.isNone) ( K false) ( cl prog eJ [(pv r25),(.int .i64 1),(.agg (am.C (⟨1,2,3⟩:am)).toArray)] bi fun r59=>cl prog pC [(pv r26),(.agg (ao.C (⟨1,5,1,1⟩:ao)).toArray)] aB fun r67=>cl prog pB [(pv r26),(.int .i64 1),(.int .i64 5)] fY fun r70=>cl prog nM [(pv r27),(.int .i64 0),(.int .u64 4)] eE fun r74=>cl prog mL [(pv r27),(.int .i64 2)] bK fun r77=>cl prog pH [(pv r28),(.int .u64 9)] bK fun r82=>cl prog nU [(pv r29)] hO fun r86=>cl prog jU [(pv r30)] bM fun r89=>cl prog me [] aB fun r97=>br (((((((((((r97 && (r59 == 0)) && (ft (⟨1,2,3⟩:am)).2) && (((ft (⟨1,2,3⟩:am)).1) == 33059)) && r67) && r70.2) && (r70.1.fEa == 1)) && (r74 == 2)) && (r77.1 == 4)) && r77.2) && (r82.1 == 6)) && (r86 == 0)) ( cl prog kH [(pv r29),(.int .u64 0)] aB fun r141=>br r141 ( cl prog nT [(pv r29),(.int .u64 0)] aB fun r145=>br ((r145 && (r89.1 == 0)) && r89.2) ( cl prog fV [(pv r24),(.int .i64 1),(.int .i64 3),(.int .u64 9)] aB fun r156=>br ((r156 && (ay (⟨6,0,0,0,0⟩:ah)).2) && (((ay (⟨6,0,0,0,0⟩:ah)).1) == 6)) ( cl prog ie [(.agg (ah.C (⟨6,8,0,1,0⟩:ah)).toArray),(.int .i64 2)] bi fun r167=>br (r167 == 2) ( cl prog n_word_Args [(.int .i64 3)] eE fun r171=>br ((r171 == 4) && (aP 1 3)) ( cl prog mH [(pv r25),(.int .i64 2)] cF fun r179=>br ((r179.len:Int) == 1) ( cl prog qE [(pv r30)] hO fun r185=>K (r185 == 2)) ( K false)) ( K false)) ( K false)) ( K false)) ( K false)) ( K false)) ( K false))
theorem xv {K:Bool->Hp->Prop} {h:Hp} (H:qc K h):cl prog ma [] aB K h:=z_i func131 p p fun _=>O<|U p<|O<|aa<|D H en_77 fun r24 _ H1=>aa<|D H1 en_59 fun r25 _ H2=>aa<|D H2 en_41 fun r26 _ H3=>aa<|D H3 en_39 fun r27 _ H4=>J (au p)<|J (au p)<|J (au p)<|U p<|O<|aa<|D H4 en_156 fun r28 _ H5=>aa<|D H5 en_157 fun r29 _ H6=>aa<|D H6 en_78 fun r30 _ H7=>J (au p)<|J (au p)<|U p<|al<|O<|M p<|J (cx underlying122 p)<|M p<|W p p (aM _) (fun g8=>wv<|ai p)<|W p p (aM _) (fun g9=>wv<|cx underlying112<|aC p g9)<|J (dC p p)<|M p<|W p p (aM _) (fun g10=>wv<|ai p)<|W p p (aM _) (fun g11=>wv<|cx underlying84<|aC p g11)<|J (dC p p)<|M p<|W p p (aM _) (fun g12=>wv<|ai p)<|W p p (aM _) (fun g13=>wv<|cx underlying59<|aC p g13)<|J (dC p p)<|M p<|W p p (aM _) (fun g14=>wv<|ai p)<|W p p (aM _) (fun g15=>wv<|cx underlying227<|aC p g15)<|J (dC p p)<|M p<|W p p (aM _) (fun g16=>wv<|ai p)<|W p p (aM _) (fun g17=>wv<|cx underlying229<|aC p g17)<|J (dC p p)<|M p<|W p p (aM _) (fun g18=>wv<|ai p)<|W p p (aM _) (fun g19=>wv<|cx underlying124<|aC p g19)<|J (dC p p)<|ad<|aw p H7 (fun k20 H21=>O<|U p<|aj<|Z ⟨false,p,H21⟩) fun k20 H21=>an<|O<|M p<|J (aZ p<|nO 1 2 3)<|aa<|D H21 en_60 fun r59 _ H22=>U p<|O<|J (aZ p<|nO 1 2 3)<|aa<|cT (vs:=[(.agg (am.C (⟨1,2,3⟩:am)).toArray)]) (bA<|ct_pte_Put (⟨1,2,3⟩:am) _) en_102 p p<|M p<|J (ak p p)<|J (ak p p)<|J (au p)<|U p<|O<|M p<|J (aZ p<|wX 1 5 1 1)<|aa<|D H22 en_107 fun r67 _ H23=>U p<|O<|M p<|aa<|D H23 en_104 fun r70 _ H24=>M p<|J (ak p p)<|J (ak p p)<|aa<|aL (l:=ao.C (⟨0,0,0,0⟩:ao)) lF p p fun b12=>aa<|aO (k:=0) (vs:=ao.C r70.1) fZ p p p p p p p<|U p<|O<|M p<|aa<|D H24 en_33 fun r74 _ H25=>U p<|O<|M p<|aa<|D H25 en_24 fun r77 _ H26=>M p<|J (ak p p)<|J (ak p p)<|J (au p)<|U p<|O<|M p<|aa<|D H26 en_158 fun r82 _ H27=>M p<|J (ak p p)<|J (ak p p)<|J (au p)<|U p<|O<|M p<|aa<|D H27 en_159 fun r86 _ H28=>U p<|O<|M p<|aa<|D H28 en_118 fun r89 _ H29=>M p<|J (ak p p)<|J (ak p p)<|J (au p)<|U p<|O<|J (aZ p<|build_30_0 6)<|aa<|cT (vs:=[(.agg (ah.C (⟨6,0,0,0,0⟩:ah)).toArray)]) (bA<|kO (⟨6,0,0,0,0⟩:ah) _) en_27 p p<|M p<|J (ak p p)<|J (ak p p)<|J (au p)<|U p<|O<|aa<|D H29 en_160 fun r97 _ H30=>M p<|W p p (ax _) (fun g31=>wv<|ai p)<|W p p (ax _) (fun g32=>wv<|bP (aC p g32) p)<|J (bN p p)<|M p<|W p p (ax _) (fun g33=>wv<|ai p)<|J (bN p p)<|M p<|W p p (ax _) (fun g34=>wv<|ai p)<|W p p (ax _) (fun g35=>wv<|bP (aC p g35) p)<|J (bN p p)<|M p<|W p p (ax _) (fun g36=>wv<|ai p)<|J (bN p p)<|M p<|W p p (ax _) (fun g37=>wv<|ai p)<|J (bN p p)<|M p<|W p p (ax _) (fun g38=>wv<|ae ms p)<|W p p (ax _) (fun g39=>cv<|bh (k:=0) ba (aC p g39) p p)<|W p p (ax _) (fun g40=>wv<|bP (aC p g40) p)<|J (bN p p)<|M p<|W p p (ax _) (fun g41=>wv<|ai p)<|W p p (ax _) (fun g42=>wv<|bP (aC p g42) p)<|J (bN p p)<|M p<|W p p (ax _) (fun g43=>wv<|ai p)<|W p p (ax _) (fun g44=>wv<|bP (aC p g44) p)<|J (bN p p)<|M p<|W p p (ax _) (fun g45=>wv<|ai p)<|J (bN p p)<|M p<|W p p (ax _) (fun g46=>wv<|ai p)<|W p p (ax _) (fun g47=>wv<|bP (aC p g47) p)<|J (bN p p)<|M p<|W p p (ax _) (fun g48=>wv<|ai p)<|W p p (ax _) (fun g49=>wv<|bP (aC p g49) p)<|J (bN p p)<|M p<|W p p (ax _) (fun g50=>wv<|ai p)<|bV H30 (fun k52 H53=>G (F k52)<|gK H53 en_161 (aS (aC p k52)<|aS p bT) p fun r141 _ H54=>J (aU p k52 p)<|M p<|W p p (ax _) (fun g55=>wv<|ai p)<|bV H54 (fun k57 H58=>G (F k57)<|gK H58 en_162 (aS (aC p k57)<|aS p bT) p fun r145 _ H59=>J (aU p k57 p)<|M p<|W p p (ax _) (fun g60=>wv<|ai p)<|W p p (ax _) (fun g61=>wv<|bP (aC p g61) p)<|J (bN p p)<|M p<|W p p (ax _) (fun g62=>wv<|ai p)<|J (bN p p)<|M p<|W p p (ax _) (fun g63=>wv<|ai p)<|bV H59 (fun k65 H66=>G (F k65)<|gK H66 en_110 (aS (aC p k65)<|aS p<|aS p<|aS p bT) p fun r156 _ H67=>J (aU p k65 p)<|M p<|W p p (ax _) (fun g68=>wv<|ai p)<|J (bN p p)<|M p<|W p p (ax _) (fun g69=>wv<|ai p)<|W p p (ax _) (fun g70=>wv<|bP (aC p g70) p)<|J (bN p p)<|M p<|W p p (ax _) (fun g71=>wv<|aZ p<|eP 6 8 0 1)<|bV H67 (fun k73 H74=>G (F k73)<|gK H74 en_58 (aS (aC p k73)<|aS p bT) p fun r167 _ H75=>G (F k73)<|z_p (bP p p)<|J (aU p k73 p)<|M p<|bV H75 (fun k77 H78=>G (F k77)<|D H78 en_163 fun r171 _ H79=>G (F k77)<|z_p (bP p p)<|J (aU p k77 p)<|M p<|di (vs:=[(.int .i64 1),(.int .i64 3)]) p p p (ax _) (fun g80=>bA<|dm 1 3 _) sB (fun g80=>p) p<|J (bN p p)<|M p<|W p p (ax _) (fun g81=>wv<|ai p)<|bV H79 (fun k83 H84=>G (F k83)<|gK H84 en_123 (aS (aC p k83)<|aS p bT) p fun r179 _ H85=>G (F k83)<|z_p (dE p underlying23 p)<|G (F k83)<|z_p (bP p p)<|J (aU p k83 p)<|M p<|W p p (ax _) (fun g86=>wv<|ai p)<|bV H85 (fun k88 H89=>G (F k88)<|gK H89 en_164 (aS (aC p k88) bT) p fun r185 _ H90=>G (F k88)<|z_p (bP p p)<|J (aU p k88 p)<|U p<|aj<|Z ⟨(r185 == 2),p,H90⟩) fun k88 H89=>Y (aT k88)<|Y (aT k88)<|J (ar p k88 p)<|U p<|aj<|Z ⟨false,p,H89⟩) fun k83 H84=>Y (aT k83)<|Y (aT k83)<|Y (aT k83)<|J (ar p k83 p)<|M p<|Y p<|Y p<|Y p<|J (ar p p p)<|U p<|aj<|Z ⟨false,p,H84⟩) fun k77 H78=>Y (aT k77)<|Y (aT k77)<|J (ar p k77 p)<|M p<|Y p<|J (ar p p p)<|M p<|Y p<|Y p<|Y p<|Y p<|J (ar p p p)<|M p<|Y p<|Y p<|Y p<|J (ar p p p)<|U p<|aj<|Z ⟨false,p,H78⟩) fun k73 H74=>Y (aT k73)<|Y (aT k73)<|J (ar p k73 p)<|M p<|Y p<|Y p<|J (ar p p p)<|M p<|Y p<|J (ar p p p)<|M p<|Y p<|Y p<|Y p<|Y p<|J (ar p p p)<|M p<|Y p<|Y p<|Y p<|J (ar p p p)<|U p<|aj<|Z ⟨false,p,H74⟩) fun k65 H66=>Y (aT k65)<|J (ar p k65 p)<|M p<|Y p<|J (ar p p p)<|M p<|Y p<|Y p<|J (ar p p p)<|M p<|Y p<|Y p<|Y p<|J (ar p p p)<|M p<|Y p<|Y p<|J (ar p p p)<|M p<|Y p<|J (ar p p p)<|M p<|Y p<|Y p<|Y p<|Y p<|J (ar p p p)<|M p<|Y p<|Y p<|Y p<|J (ar p p p)<|U p<|aj<|Z ⟨false,p,H66⟩) fun k57 H58=>Y (aT k57)<|J (ar p k57 p)<|M p<|Y p<|Y p<|J (ar p p p)<|M p<|Y p<|J (ar p p p)<|M p<|Y p<|Y p<|J (ar p p p)<|M p<|Y p<|J (ar p p p)<|M p<|Y p<|Y p<|J (ar p p p)<|M p<|Y p<|Y p<|Y p<|J (ar p p p)<|M p<|Y p<|Y p<|J (ar p p p)<|M p<|Y p<|J (ar p p p)<|M p<|Y p<|Y p<|Y p<|Y p<|J (ar p p p)<|M p<|Y p<|Y p<|Y p<|J (ar p p p)<|U p<|aj<|Z ⟨false,p,H58⟩) fun k52 H53=>Y (aT k52)<|J (ar p k52 p)<|M p<|Y p<|Y p<|J (ar p p p)<|M p<|Y p<|Y p<|J (ar p p p)<|M p<|Y p<|J (ar p p p)<|M p<|Y p<|Y p<|J (ar p p p)<|M p<|Y p<|J (ar p p p)<|M p<|Y p<|Y p<|J (ar p p p)<|M p<|Y p<|Y p<|Y p<|J (ar p p p)<|M p<|Y p<|Y p<|J (ar p p p)<|M p<|Y p<|J (ar p p p)<|M p<|Y p<|Y p<|Y p<|Y p<|J (ar p p p)<|M p<|Y p<|Y p<|Y p<|J (ar p p p)<|U p<|aj<|Z ⟨false,p,H53⟩
def qd (K:Bool->Hp->Prop):Hp->Prop:=cl prog ma [] aB fun r1=>K r1
theorem xw {K:Bool->Hp->Prop} {h:Hp} (H:qd K h):cl prog mb [] aB K h:=z_i func88 p p fun _=>O<|U p<|O<|aa<|D H en_131 fun r1 _ H1=>U p<|aj<|Z ⟨r1,p,H1⟩
end
section
open Go Mb
variable {ET:Nat} {EF:Nat × Nat}
section
variable {l:List As} {h:Hp} {x:Ptr}
theorem mem_nn {fs:List (List Int)} (s:az (iN x fs::l) h):x.isNone = false:=by obtain ⟨b,_,_,rfl,_⟩:=mem_op s; rfl
theorem nn_of {α:Type} {φ:α->Prop} {m:α->List As} (hx:∀ z,φ z->x.isNone = false) (s:az ((fun h=>∃ z,φ z/\az (m z) h)::l) h):x.isNone = false:=by
 obtain ⟨z,f,_⟩:=op_ s
 exact hx z f
theorem table_nn {ps:List Pte} (s:az (df x ps::l) h):x.isNone = false:=nn_of (fun _ e=>by rw [e.1]; rfl) s
theorem tlb_nn {t:List TL × Int} (s:az (fW x t::l) h):x.isNone = false:=nn_of (fun _ e=>by rw [e.1]; rfl) s
theorem mail_nn {bs:List (List Int)} (s:az (jE x bs::l) h):x.isNone = false:=nn_of (fun _ e=>by rw [e.1]; rfl) s
theorem cell_nn {c:Int × Int} (s:az (lB x c::l) h):x.isNone = false:=nn_of (fun _ e=>by rw [e]; rfl) s
theorem lock_nn {k:(Int × Int) × (Int × Int)} (s:az (vN x k::l) h):x.isNone = false:=nn_of (fun _ e=>by rw [e]; rfl) s
theorem pool_nn {p:List Int} (s:az (gn x p::l) h):x.isNone = false:=nn_of (fun _ e=>by rw [e.1]; rfl) s
end
theorem sp_Begun1:Sp prog me [] aB [(etB ET EF)] (fun r=>pa_ (r = true) [(etB ET EF)]):=by
 intro h st
 refine xy ?_
 unfold qf
 exact bO (i:=0) sp_begun1 rfl st fun r h' hr s=>aY hr s
theorem sp_begun2:Sp prog ma [] aB [(etB ET EF)] (fun r=>pa_ (r = true) [(etB ET EF)]):=by
 intro h st
 refine xv ?_
 unfold qc
 refine mu (sp_mem_New 2 (by decide) (by decide)) st fun a1 h1 s1=>?_
 refine mu oW s1 fun a2 h2 s2=>?_
 refine mu xh s2 fun a3 h3 s3=>?_
 refine mu (sp_mail_New 3 (by decide) (by decide)) s3 fun a4 h4 s4=>?_
 refine mu (sp_cell_New 5) s4 fun a5 h5 s5=>?_
 refine mu sp_ticket_New s5 fun a6 h6 s6=>?_
 refine mu (sp_pool_New 2 (by decide) (by decide)) s6 fun a7 h7 s7=>?_
 have n1:=mem_nn s1
 have n2:=table_nn s2
 have n3:=tlb_nn s3
 have n4:=mail_nn s4
 have n5:=cell_nn s5
 have n6:=lock_nn s6
 have n7:=pool_nn s7
 rw [n1,n2,n3,n4,n5,n6,n7]
 refine dy rfl ?_
 refine bO (i:=5) (kT a2 _ 1 ⟨1,2,3⟩) rfl s7 fun r1 h8 e1 s8=>?_
 refine bO (i:=4) (sp_tlb_Fill a3 _ ⟨1,5,1,1⟩) rfl s8 fun r2 h9 e2 s9=>?_
 refine bO (i:=4) (sp_tlb_Find a3 _ 1 5) rfl s9 fun r3 h10 e3 s10=>?_
 refine bO (i:=3) (sp_mail_All a4 _ 0 4 (fun l hl=>?_)) rfl s10 fun r4 h11 e4 s11=>?_
 ·have:l = []:=by simpa using hl
  subst this
  exact ⟨fun _ h=>(by cases h),.nil,by decide⟩
 refine bO (i:=3) (sp_mail_Take a4 _ 2) rfl s11 fun r5 h12 e5 s12=>?_
 refine bO (i:=2) (sp_cell_Up a5 _ 9) rfl s12 fun r6 h13 e6 s13=>?_
 refine bO (i:=1) (sp_ticket_Draw a6 _) rfl s13 fun r7 h14 e7 s14=>?_
 refine bO (i:=0) (xi a7 _) rfl s14 fun r8 h15 e8 s15=>?_
 refine bO (i:=7) sp_Begun1 rfl s15 fun r9 h16 e9 s16=>?_
 subst e1 e2 e3 e4 e5 e6 e7 e8 e9
 refine dU (by kernel_rfl) ?_
 refine bO (i:=1) (sp_ticket_Turn a6 _ 0) rfl s16 fun r10 h17 e10 s17=>?_
 subst e10
 refine dU (by kernel_rfl) ?_
 refine bO (i:=1) (sp_ticket_Pass a6 _ 0) rfl s17 fun r11 h18 e11 s18=>?_
 subst e11
 refine dU (by kernel_rfl) ?_
 refine bO (i:=6) (mC a1 _ 1 3 9) rfl s18 fun r12 h19 e12 s19=>?_
 subst e12
 refine dU (by kernel_rfl) ?_
 refine uo (jC ⟨6,8,0,1,0⟩ 2) s19 fun r13 h20 e13 s20=>?_
 subst e13
 refine dU (by kernel_rfl) ?_
 refine uo (sp_word_Args 3) s20 fun r14 h21 e14 s21=>?_
 subst e14
 refine dU (by kernel_rfl) ?_
 refine wV (i:=5) (sp_table_By a2 _ 2) rfl s21 fun r15 h22 s22=>?_
 have e15:((r15.len:Int) == 1) = true:=by
  rw [(cf (j:=0) s22 rfl).1]
  kernel_rfl
 refine dU e15 ?_
 refine bO (i:=1) (sp_pool_Bits a7 _) rfl s22 fun r16 h23 e16 s23=>?_
 subst e16
 refine aY (by kernel_rfl) (bX (l:=[_,_,_,_,_,_,_,_]) s23)
theorem sp_Begun2:Sp prog mb [] aB [(etB ET EF)] (fun r=>pa_ (r = true) [(etB ET EF)]):=by
 intro h st
 refine xw ?_
 unfold qd
 exact bO (i:=0) sp_begun2 rfl st fun r h' hr s=>aY hr s
end
section
open Go Mb
def pn (K:Bool->Hp->Prop):Hp->Prop:=cl prog oA [(.agg (aF.C (⟨1,2,2⟩:aF)).toArray)] dW fun r23=>cl prog xT [(.int .i64 2)] sZ fun r24=>cl prog oD [(.int .i64 3)] je fun r25=>cl prog iZ [] gV fun r26=>cl prog lW [] iQ fun r27=>cl prog wG [(.int .i64 2)] ui fun r28=>br (((((r23.isNone || r24.isNone) || r25.isNone) || r26.isNone) || r27.isNone) || r28.isNone) ( K false) ( cl prog dJ [(pv r23),(.int .i64 0),(.agg (ah.C (⟨1,1,0,0,0⟩:ah)).toArray)] bb fun r54=>cl prog dJ [(pv r23),(.int .i64 0),(.agg (ah.C (⟨6,2,1,3,0⟩:ah)).toArray)] bb fun r60=>cl prog dJ [(pv r23),(.int .i64 0),(.agg (ah.C (⟨21,2,5,77,0⟩:ah)).toArray)] bb fun r65=>cl prog dJ [(pv r23),(.int .i64 0),(.agg (ah.C (⟨20,2,5,0,0⟩:ah)).toArray)] bb fun r69=>cl prog jY [(pv r24),(.int .i64 0),(.int .i64 1),(.int .i64 1)] bi fun r73=>cl prog iL [(pv r24),(.int .i64 0),(.int .i64 1),(.int .i64 1),(.int .i64 3),(.int .i64 1)] bi fun r75=>cl prog jq [(pv r25),(.int .i64 0)] bK fun r78=>cl prog kM [(pv r25),(.int .i64 1),(.int .u64 r78.1)] aB fun r83=>cl prog eJ [(pv r27),(.int .i64 2),(.agg (am.C (⟨1,1,1⟩:am)).toArray)] bi fun r86=>cl prog n_user_Do [(pv r26),(pv r27),(pv r28),(.int .i64 0),(.agg (ah.C (⟨20,2,3,0,0⟩:ah)).toArray)] fe fun r92=>cl prog nV [(pv r23),(.int .i64 0),(.agg (ah.C (⟨7,5,0,0,0⟩:ah)).toArray)] iS fun r97=>cl prog mb [] aB fun r98=>br ((((((r98 && r54.2) && (r54.1.fWa == 0)) && (r60.1.fWa == 0)) && (r69.1.fVal == 77)) && (r73 == 0)) && (r75 == 0)) ( cl prog lN [(pv r24),(.int .i64 0),(.int .i64 1)] da fun r127=>br (((((r127.len:Int) == 1) && (r78.1 == 1)) && r78.2) && r83) ( cl prog jL [(pv r25),(.int .u64 1)] aB fun r143=>br (!r143) ( cl prog jp [(pv r25),(.int .u64 1)] cF fun r148=>br ((((((r148.len:Int) == 1) && (r86 == 0)) && (r92.1.fWa == 0)) && (r92.2.fEa == 1)) && (nE 3 3 4)) ( cl prog la [(.int .i64 3)] iS fun r171=>cl prog oC [r97,r171] aB fun r172=>br r172 ( cl prog nk [(pv r23)] cF fun r176=>K ((r176.len:Int) == 1)) ( K false)) ( K false)) ( K false)) ( K false)) ( K false))
theorem wd {K:Bool->Hp->Prop} {h:Hp} (H:pn K h):cl prog lx [] aB K h:=z_i func43 p p fun _=>O<|U p<|O<|J (aZ p<|ue 1 2 2)<|aa<|D H en_38 fun r23 _ H1=>aa<|D H1 en_79 fun r24 _ H2=>aa<|D H2 en_40 fun r25 _ H3=>J (au p)<|J (au p)<|U p<|O<|aa<|D H3 en_41 fun r26 _ H4=>aa<|D H4 en_59 fun r27 _ H5=>aa<|D H5 en_77 fun r28 _ H6=>J (au p)<|J (au p)<|U p<|al<|O<|M p<|J (cx underlying57 p)<|M p<|W p p (aM _) (fun g7=>wv<|ai p)<|W p p (aM _) (fun g8=>wv<|cx underlying125<|aC p g8)<|J (dC p p)<|M p<|W p p (aM _) (fun g9=>wv<|ai p)<|W p p (aM _) (fun g10=>wv<|cx underlying60<|aC p g10)<|J (dC p p)<|M p<|W p p (aM _) (fun g11=>wv<|ai p)<|W p p (aM _) (fun g12=>wv<|cx underlying84<|aC p g12)<|J (dC p p)<|M p<|W p p (aM _) (fun g13=>wv<|ai p)<|W p p (aM _) (fun g14=>wv<|cx underlying112<|aC p g14)<|J (dC p p)<|M p<|W p p (aM _) (fun g15=>wv<|ai p)<|W p p (aM _) (fun g16=>wv<|cx underlying122<|aC p g16)<|J (dC p p)<|ad<|aw p H6 (fun k17 H18=>O<|U p<|aj<|Z ⟨false,p,H18⟩) fun k17 H18=>an<|O<|M p<|J (aZ p<|io 1 1)<|aa<|D H18 en_35 fun r54 _ H19=>M p<|J (ak p p)<|J (ak p p)<|aa<|aL (l:=ab.C (⟨0,0⟩:ab)) de p p fun b7=>aa<|aO (k:=0) (vs:=ab.C r54.1) bL p p p p p p p<|U p<|O<|M p<|J (aZ p<|eP 6 2 1 3)<|aa<|D H19 en_35 fun r60 _ H20=>M p<|J (ak p p)<|J (ak p p)<|aa<|aL (l:=ab.C (⟨0,0⟩:ab)) de p p fun b9=>aa<|aO (k:=0) (vs:=ab.C r60.1) bL p p p p p p p<|U p<|O<|M p<|J (aZ p<|eP 21 2 5 77)<|aa<|D H20 en_35 fun r65 _ H21=>ad<|O<|M p<|J (aZ p<|iP 20 2 5)<|aa<|D H21 en_35 fun r69 _ H22=>M p<|J (ak p p)<|J (ak p p)<|aa<|aL (l:=ab.C (⟨0,0⟩:ab)) de p p fun b11=>aa<|aO (k:=0) (vs:=ab.C r69.1) bL p p p p p p p<|U p<|O<|M p<|aa<|D H22 en_84 fun r73 _ H23=>M p<|aa<|D H23 en_85 fun r75 _ H24=>J (au p)<|U p<|O<|M p<|aa<|D H24 en_32 fun r78 _ H25=>M p<|J (ak p p)<|J (ak p p)<|J (au p)<|U p<|O<|M p<|M p<|aa<|D H25 en_26 fun r83 _ H26=>U p<|O<|M p<|J (aZ p<|nO 1 1 1)<|aa<|D H26 en_60 fun r86 _ H27=>U p<|O<|M p<|M p<|M p<|J (aZ p<|iP 20 2 3)<|aa<|D H27 en_86 fun r92 _ H28=>M p<|J (ak p p)<|J (ak p p)<|aa<|aL (l:=ab.C (⟨0,0⟩:ab)) de p p fun b19=>aa<|aL (l:=ao.C (⟨0,0,0,0⟩:ao)) lF p p fun b20=>aa<|aO (k:=1) (vs:=ab.C r92.1) bL p p p p p p p<|aa<|aO (k:=0) (vs:=ao.C r92.2) fZ p p p p p p p<|ad<|O<|M p<|J (aZ p<|io 7 5)<|aa<|D H28 en_87 fun r97 _ H29=>U p<|O<|aa<|D H29 en_88 fun r98 _ H30=>M p<|W p p (ax _) (fun g31=>wv<|ai p)<|J (bN p p)<|M p<|W p p (ax _) (fun g32=>wv<|ae jx p)<|W p p (ax _) (fun g33=>cv<|bh (k:=4) nC (aC p g33) p p)<|W p p (ax _) (fun g34=>wv<|bP (aC p g34) p)<|J (bN p p)<|M p<|W p p (ax _) (fun g35=>wv<|ae jx p)<|W p p (ax _) (fun g36=>cv<|bh (k:=3) nC (aC p g36) p p)<|W p p (ax _) (fun g37=>wv<|bP (aC p g37) p)<|J (bN p p)<|M p<|W p p (ax _) (fun g38=>wv<|ae fld_34_1 p)<|W p p (ax _) (fun g39=>cv<|bh (k:=2) cG (aC p g39) p p)<|W p p (ax _) (fun g40=>wv<|bP (aC p g40) p)<|J (bN p p)<|M p<|W p p (ax _) (fun g41=>wv<|ai p)<|W p p (ax _) (fun g42=>wv<|bP (aC p g42) p)<|J (bN p p)<|M p<|W p p (ax _) (fun g43=>wv<|ai p)<|W p p (ax _) (fun g44=>wv<|bP (aC p g44) p)<|J (bN p p)<|M p<|W p p (ax _) (fun g45=>wv<|ai p)<|bV H30 (fun k47 H48=>G (F k47)<|gK H48 en_89 (aS (aC p k47)<|aS p<|aS p bT) p fun r127 _ H49=>G (F k47)<|z_p (dE p underlying152 p)<|G (F k47)<|z_p (bP p p)<|J (aU p k47 p)<|M p<|W p p (ax _) (fun g50=>wv<|ai p)<|W p p (ax _) (fun g51=>wv<|bP (aC p g51) p)<|J (bN p p)<|M p<|W p p (ax _) (fun g52=>wv<|ai p)<|J (bN p p)<|M p<|W p p (ax _) (fun g53=>wv<|ai p)<|J (bN p p)<|M p<|W p p (ax _) (fun g54=>wv<|ai p)<|bV H49 (fun k56 H57=>G (F k56)<|gK H57 en_34 (aS (aC p k56)<|aS p bT) p fun r143 _ H58=>G (F k56)<|z_p (cu p)<|J (aU p k56 p)<|M p<|W p p (ax _) (fun g59=>wv<|ai p)<|bV H58 (fun k61 H62=>G (F k61)<|gK H62 en_66 (aS (aC p k61)<|aS p bT) p fun r148 _ H63=>G (F k61)<|z_p (dE p underlying23 p)<|G (F k61)<|z_p (bP p p)<|J (aU p k61 p)<|M p<|W p p (ax _) (fun g64=>wv<|ai p)<|W p p (ax _) (fun g65=>wv<|bP (aC p g65) p)<|J (bN p p)<|M p<|W p p (ax _) (fun g66=>wv<|ae jx p)<|W p p (ax _) (fun g67=>cv<|bh (k:=1) nC (aC p g67) p p)<|W p p (ax _) (fun g68=>wv<|bP (aC p g68) p)<|J (bN p p)<|M p<|W p p (ax _) (fun g69=>wv<|ae ms p)<|W p p (ax _) (fun g70=>cv<|bh (k:=0) ba (aC p g70) p p)<|W p p (ax _) (fun g71=>wv<|bP (aC p g71) p)<|J (bN p p)<|M p<|di (vs:=[(.int .i64 3),(.int .u64 3),(.int .u64 4)]) p p p (ax _) (fun g72=>bA<|vS 3 3 4 _) en_90 (fun g72=>p) p<|J (bN p p)<|M p<|W p p (ax _) (fun g73=>wv<|ai p)<|bV H63 (fun k75 H76=>G (F k75)<|D H76 en_92 fun r171 _ H77=>G (F k75)<|gK H77 en_91 (aS (aC p k75)<|aS p bT) p fun r172 _ H78=>J (aU p k75 p)<|M p<|W p p (ax _) (fun g79=>wv<|ai p)<|bV H78 (fun k81 H82=>G (F k81)<|gK H82 en_93 (aS (aC p k81) bT) p fun r176 _ H83=>G (F k81)<|z_p (dE p underlying23 p)<|G (F k81)<|z_p (bP p p)<|J (aU p k81 p)<|U p<|aj<|Z ⟨((r176.len:Int) == 1),p,H83⟩) fun k81 H82=>Y (aT k81)<|Y (aT k81)<|Y (aT k81)<|J (ar p k81 p)<|U p<|aj<|Z ⟨false,p,H82⟩) fun k75 H76=>Y (aT k75)<|Y (aT k75)<|J (ar p k75 p)<|M p<|Y p<|Y p<|Y p<|Y p<|J (ar p p p)<|U p<|aj<|Z ⟨false,p,H76⟩) fun k61 H62=>Y (aT k61)<|Y (aT k61)<|Y (aT k61)<|J (ar p k61 p)<|M p<|Y p<|Y p<|J (ar p p p)<|M p<|Y p<|Y p<|Y p<|J (ar p p p)<|M p<|Y p<|Y p<|Y p<|J (ar p p p)<|M p<|Y p<|J (ar p p p)<|M p<|Y p<|Y p<|Y p<|J (ar p p p)<|M p<|Y p<|Y p<|Y p<|Y p<|J (ar p p p)<|U p<|aj<|Z ⟨false,p,H62⟩) fun k56 H57=>Y (aT k56)<|Y (aT k56)<|J (ar p k56 p)<|M p<|Y p<|Y p<|Y p<|Y p<|J (ar p p p)<|M p<|Y p<|Y p<|J (ar p p p)<|M p<|Y p<|Y p<|Y p<|J (ar p p p)<|M p<|Y p<|Y p<|Y p<|J (ar p p p)<|M p<|Y p<|J (ar p p p)<|M p<|Y p<|Y p<|Y p<|J (ar p p p)<|M p<|Y p<|Y p<|Y p<|Y p<|J (ar p p p)<|U p<|aj<|Z ⟨false,p,H57⟩) fun k47 H48=>Y (aT k47)<|Y (aT k47)<|Y (aT k47)<|J (ar p k47 p)<|M p<|Y p<|Y p<|J (ar p p p)<|M p<|Y p<|J (ar p p p)<|M p<|Y p<|J (ar p p p)<|M p<|Y p<|Y p<|Y p<|J (ar p p p)<|M p<|Y p<|Y p<|Y p<|Y p<|J (ar p p p)<|M p<|Y p<|Y p<|J (ar p p p)<|M p<|Y p<|Y p<|Y p<|J (ar p p p)<|M p<|Y p<|Y p<|Y p<|J (ar p p p)<|M p<|Y p<|J (ar p p p)<|M p<|Y p<|Y p<|Y p<|J (ar p p p)<|M p<|Y p<|Y p<|Y p<|Y p<|J (ar p p p)<|U p<|aj<|Z ⟨false,p,H48⟩
def pq (K:Bool->Hp->Prop):Hp->Prop:=cl prog lx [] aB fun r1=>K r1
theorem wg {K:Bool->Hp->Prop} {h:Hp} (H:pq K h):cl prog ly [] aB K h:=z_i func18 p p fun _=>O<|U p<|O<|aa<|D H en_43 fun r1 _ H1=>U p<|aj<|Z ⟨r1,p,H1⟩
end
section
open Go Mb
variable {ET:Nat} {EF:Nat × Nat}
section
variable {l:List As} {h:Hp} {x:Ptr}
theorem plain_nn {k:PK} (s:az (bu x k::l) h):x.isNone = false:=nn_of (fun _ e=>by rw [e.1]; rfl) s
theorem tree_nn {k:fAa.T} (s:az (cQ x k::l) h):x.isNone = false:=nn_of (fun _ e=>by rw [e.1]; rfl) s
theorem epochs_nn {k:List Int × List Int} (s:az (fF x k::l) h):x.isNone = false:=nn_of (fun _ e=>by rw [e.1]; rfl) s
end
theorem sp_plain_Err (x:Ptr) (k:PK) (e:Int) (c:ah) (h1:(PK.do_ k e c).1.2 = true) (h2:(PK.do_ k e c).1.1.fWa ≠ 0):Sp prog nV [pv x,.int .i64 e,.agg c.C.toArray] iS [(etB ET EF),bu x k]
  (fun r=>ex fun b:Nat × Nat=>pa_ (r = dF b.1) [trB b.1 ⟨(PK.do_ k e c).1.1.fWa,e,c,dF b.2⟩,(etB ET EF),bu x k]):=by
 intro h st
 have hn:=plain_nn (bc [1] st rfl)
 refine sim_plain_Kernel_Err _ _ _ ?_
 unfold si
 refine dy hn ?_
 refine wV (i:=1) (vv x k) rfl st fun y g1 s1=>?_
 refine bO (i:=0) (kv y k e c) rfl s1 fun r g2 hr s2=>?_
 subst hr
 refine dy (by rw [h1]; rfl) ?_
 refine cW [] (rest:=[_,_,_]) (sp_Of _ h2) s2 rfl fun r g3 s3=>?_
 obtain ⟨b,x3⟩:=vj s3
 obtain ⟨rfl,y3⟩:=bp.1 x3
 refine cW [2,0] (rest:=[_,_]) (sp_In e c b _) y3 rfl fun r g4 s4=>?_
 obtain ⟨d,x4⟩:=vj s4
 obtain ⟨rfl,y4⟩:=bp.1 x4
 refine ⟨(d,b),aY rfl (bX (l:=[_,_]) (bc [2,2] y4 rfl))⟩
theorem sp_begun11:Sp prog lx [] aB [(etB ET EF)] (fun r=>pa_ (r = true) [(etB ET EF)]):=by
 intro h st
 refine wd ?_
 unfold pn
 refine mu (sH ⟨1,2,2⟩ (by decide)) st fun a1 h1 s1=>?_
 refine mu (sp_caps_New 2 (by decide) (by decide)) s1 fun a2 h2 s2=>?_
 refine mu (sJ 3 (by decide) (by decide)) s2 fun a3 h3 s3=>?_
 refine mu xh s3 fun a4 h4 s4=>?_
 refine mu oW s4 fun a5 h5 s5=>?_
 refine mu (sp_mem_New 2 (by decide) (by decide)) s5 fun a6 h6 s6=>?_
 have n1:=plain_nn s1
 have n2:=tree_nn s2
 have n3:=epochs_nn s3
 have n4:=tlb_nn s4
 have n5:=table_nn s5
 have n6:=mem_nn s6
 rw [n1,n2,n3,n4,n5,n6]
 refine dy rfl ?_
 refine bO (i:=5) (kv a1 _ 0 ⟨1,1,0,0,0⟩) rfl s6 fun r1 h7 e1 s7=>?_
 refine bO (i:=5) (kv a1 _ 0 ⟨6,2,1,3,0⟩) rfl s7 fun r2 h8 e2 s8=>?_
 refine bO (i:=5) (kv a1 _ 0 ⟨21,2,5,77,0⟩) rfl s8 fun r3 h9 e3 s9=>?_
 refine bO (i:=5) (kv a1 _ 0 ⟨20,2,5,0,0⟩) rfl s9 fun r4 h10 e4 s10=>?_
 refine bO (i:=4) (xm a2 _ 0 1 1) rfl s10 fun r5 h11 e5 s11=>?_
 refine bO (i:=4) (tn a2 _ 0 1 1 3 1) rfl s11 fun r6 h12 e6 s12=>?_
 refine bO (i:=3) (sp_epoch_Begin a3 _ 0 (by decide)) rfl s12 fun r7 h13 e7 s13=>?_
 subst e7
 refine bO (i:=3) (sp_epoch_Ack a3 _ 1 _) rfl s13 fun r8 h14 e8 s14=>?_
 refine bO (i:=1) (kT a5 _ 2 ⟨1,1,1⟩) rfl s14 fun r9 h15 e9 s15=>?_
 refine cW [2,1,0] (rest:=[_,_,_,_]) (sp_user_Do a4 a5 a6 _ _ _ 0 ⟨20,2,3,0,0⟩) s15 rfl fun r10 h16 x16=>?_
 obtain ⟨e10,s16⟩:=bp.1 x16
 subst e1 e2 e3 e4 e5 e6 e8 e9 e10
 refine cW [6,5] (rest:=[_,_,_,_,_]) (sp_plain_Err a1 _ 0 ⟨7,5,0,0,0⟩ (by kernel_rfl) (by decide)) s16 rfl fun r11 h17 x17=>?_
 obtain ⟨⟨b,b'⟩,z17⟩:=vj x17
 obtain ⟨rfl,s17⟩:=bp.1 z17
 refine bO (i:=1) sp_Begun2 rfl s17 fun r12 h18 e12 s18=>?_
 subst e12
 refine dU (by kernel_rfl) ?_
 refine wV (i:=7) (sp_caps_Below a2 _ 0 1) rfl s18 fun r13 h19 s19=>?_
 have e13:((r13.len:Int) == 1) = true:=by
  rw [(cf (j:=0) s19 rfl).1]
  kernel_rfl
 rw [e13]
 refine dU (by kernel_rfl) ?_
 refine bO (i:=7) (sp_epoch_Done a3 _ 1) rfl s19 fun r14 h20 e14 s20=>?_
 subst e14
 refine dU (by kernel_rfl) ?_
 refine wV (i:=7) (sp_epoch_Waits a3 _ 1) rfl s20 fun r15 h21 s21=>?_
 have e15:((r15.len:Int) == 1) = true:=by
  rw [(cf (j:=0) s21 rfl).1]
  kernel_rfl
 rw [e15]
 refine dU (by kernel_rfl) ?_
 refine cW [] (rest:=[_,_,_,_,_,_,_,_,_,_]) (sp_Of 3 (by decide)) s21 rfl fun r16 h22 x22=>?_
 obtain ⟨d,z22⟩:=vj x22
 obtain ⟨rfl,s22⟩:=bp.1 z22
 refine cW [3,0] (rest:=[_,_,_,_,_,_,_,_,_]) (sp_Is1 b d _ tr3 (by kernel_rfl) (.inr ⟨b',by kernel_rfl⟩)) s22 rfl fun r17 h23 x23=>?_
 obtain ⟨rfl,s23⟩:=bp.1 x23
 refine dU rfl ?_
 refine wV (i:=5) (sp_plain_Free a1 _) rfl s23 fun r18 h24 s24=>?_
 have e18:((r18.len:Int) == 1) = true:=by
  rw [(cf (j:=0) s24 rfl).1]
  kernel_rfl
 exact aY e18 (bX (l:=[_,_,_,_,_,_,_,_,_,_,_]) (bc [0,0,0,0,0,1,1,1,1,1,1] s24 rfl))
theorem sp_Begun11:Sp prog ly [] aB [(etB ET EF)] (fun r=>pa_ (r = true) [(etB ET EF)]):=by
 intro h st
 refine wg ?_
 unfold pq
 exact bO (i:=0) sp_begun11 rfl st fun r h' hr s=>aY hr s
end
section
open Go Mb
theorem calls_nil:∀ (n:Nat) {l:List As} {h:Hp},az l h->az (all iX (replicate n (none:Ptr)) (replicate n (none:Option KC))::l) h
 | 0,_,_,s=>all_nil s
 | n + 1,l,h,s=>by
  have s1:=star_cons (A:=iX none none) (fun _=>rfl) (calls_nil n s)
  rw [List.replicate_succ,List.replicate_succ]
  obtain ⟨h1,h2,d,e,a,h3,h4,d2,e2,b,s'⟩:=s1
  subst e2
  obtain ⟨d3,d4⟩:=Dj.of_un_right d
  exact ⟨un h1 h3,h4,Dj.un_left d4 d2,by rw [e,nq],⟨h1,h3,d3,rfl,a,b⟩,s'⟩
def newI (s:fy) (b n:Nat) (pp pm pe:Ptr) (cs:Sl) (i:Int) (h:Hp):Prop:=∃ (j:Nat) (ts:Sl) (tp:List Ptr),i = j/\j <= n/\tp.length = j/\az [blk b cj [pv pp,.int .i64 s.fKa,sv ts,pv pm,pv pe,sv cs,sv (⟨none,0,0,none⟩:Sl),.int .i64 0],bu pp (PK.new s),vQ tj ts tp,all fW tp (replicate j tlb0),jE pm (replicate n []),fF pe ([],replicate n 0),vQ fN cs (replicate n none),all iX (replicate n none) (replicate n none),vE (⟨none,0,0,none⟩:Sl) []] h
theorem new_round {s:fy} {b n:Nat} {pp pm pe:Ptr} {cs:Sl} (hn8:n <= 8) {i:Int} {h:Hp} (H:newI s b n pp pm pe cs i h) (hi:i < n) :
  (both (ld (b,2) cS fun x31=>cl prog iZ [] gV fun r32=>hpv prog (Instr.buildSlice bR 1 #[(0,(pv r32))]) dY fun (v33:Sl)=>hpv prog (Builtin.append_ #[bR,bR] bR #[(sv x31),(sv v33)]) dY fun (v34:Sl)=>Mb.st (b,2) [sv v34] fun h'=>newI s b n pp pm pe cs (i64.wrap (i + 1)) h'/\n - (i64.wrap (i + 1)).toNat < n - i.toNat)
  (cl prog iZ [] gV fun r32=>ld (b,2) cS fun x31=>hpv prog (Instr.buildSlice bR 1 #[(0,(pv r32))]) dY fun (v33:Sl)=>hpv prog (Builtin.append_ #[bR,bR] bR #[(sv x31),(sv v33)]) dY fun (v34:Sl)=>Mb.st (b,2) [sv v34] fun h'=>newI s b n pp pm pe cs (i64.wrap (i + 1)) h'/\n - (i64.wrap (i + 1)).toNat < n - i.toNat)) h:=by
 obtain ⟨j,ts,tp,rfl,hj,htp,s6⟩:=H
 have hlt:j < n:=by omega
 have hw:i64.wrap ((j:Int) + 1) = ((j + 1:Nat):Int):=by rw [bm (by omega) (by omega)]; rfl
 rw [hw]
 have fin:∀ (r:Ptr) (v:Sl) (h:Hp),az [fW r tlb0,blk b cj [pv pp,.int .i64 s.fKa,sv ts,pv pm,pv pe,sv cs,sv (⟨none,0,0,none⟩:Sl),.int .i64 0],bu pp (PK.new s),vQ tj v (tp++[r]),all fW tp (replicate j tlb0),jE pm (replicate n []),fF pe ([],replicate n 0),vQ fN cs (replicate n none),all iX (replicate n none) (replicate n none),vE (⟨none,0,0,none⟩:Sl) []] h ->
   Mb.st (b,2) [sv v] (fun h'=>newI s b n pp pm pe cs ((j + 1:Nat):Int) h'/\n - ((j + 1:Nat):Int).toNat < n - (j:Int).toNat) h:=by
  intro r v h s7
  refine vu (i:=1) s7 rfl (Nat.le_of_ble_eq_true rfl) fun h8 s8=>?_
  refine ⟨⟨j + 1,v,tp++[r],rfl,hlt,by simp [htp],?_⟩,by simp; omega⟩
  have s9:=all_push (by simp [htp]) (bc [0,3] s8 rfl)
  have e:replicate j tlb0++[tlb0] = replicate (j + 1) tlb0:=List.replicate_succ'.symm
  rw [e] at s9
  exact bc [1,1,1,0] s9 rfl
 refine ⟨?_,?_⟩
 ·refine bo ts s6 (i:=0) rfl rfl rfl ?_
  refine mu xh s6 fun r h7 s7=>?_
  refine lh (τ:=Ptr) (i:=3) (enc:=cP) (val:=fun x=>pv x) el_SPtlb_Tlb im cP_one (fun _=>rfl) (by omega) rfl rfl s7 rfl (by omega) (by omega) fun v h8 s8=>?_
  exact fin r v h8 s8
 ·refine mu xh s6 fun r h7 s7=>?_
  refine bo ts s7 (i:=1) rfl rfl rfl ?_
  refine lh (τ:=Ptr) (i:=3) (enc:=cP) (val:=fun x=>pv x) el_SPtlb_Tlb im cP_one (fun _=>rfl) (by omega) rfl rfl s7 rfl (by omega) (by omega) fun v h8 s8=>?_
  exact fin r v h8 s8
theorem new_start {s:fy} {b n:Nat} {pp pm pe:Ptr} {cs:Sl} {h:Hp}
  (st:az [blk b cj (fX.C (⟨pp,s.fKa,(⟨none,0,0,none⟩:Sl),pm,pe,cs,(⟨none,0,0,none⟩:Sl),0⟩:fX)),bu pp (PK.new s),jE pm (replicate n []),fF pe ([],replicate n 0),vQ fN cs (replicate n none)] h):newI s b n pp pm pe cs 0 h:=by
 have s1:=ga (τ:=bq) (T:=t_api_Event) (m:=16) (enc:=aE.C) (calls_nil n (ga (τ:=Ptr) (T:=tj) (m:=1) (enc:=cP) (all_nil (A:=fW) st)))
 exact ⟨0,⟨none,0,0,none⟩,[],rfl,Nat.zero_le _,rfl,bc [4,4,2,2,2,2,2,1] s1 rfl⟩
theorem new_end {s:fy} (hs:PK.sized s = true) {b n:Nat} (hn:s.fVa = n) {pp pm pe:Ptr} {cs:Sl} {h:Hp} (H:newI s b n pp pm pe cs n h):az [cy (some (b,0)) (KK.new s)] h:=by
 obtain ⟨j,ts,tp,hj,hj2,htp,s6⟩:=H
 have:j = n:=by omega
 subst this
 have ok:=kok_new hs
 have e:KK.new s = ⟨PK.new s,replicate j tlb0,replicate j [],([],replicate j 0),replicate j none,[],0⟩:=by unfold KK.new; rw [hn]; rfl
 rw [e] at ok ⊢
 exact qY (z:=⟨b,pp,ts,tp,pm,pe,cs,replicate j none,⟨none,0,0,none⟩⟩) ⟨by simpa using htp,by simp⟩ ok s6
theorem sp_kern_New (s:fy) (hs:PK.sized s = true):Sp prog xR [.agg s.C.toArray] kQ [] (fun r=>az [cy r (KK.new s)]):=by
 intro h st
 have hz:=gg.1 hs
 obtain ⟨n,hn⟩:=Int.eq_ofNat_of_zero_le (show 0 <= s.fVa by omega)
 have hn8:n <= 8:=by omega
 refine sim_kern_New _ ?_
 unfold sh_kern_New
 refine mu (sH s hs) st fun pp h1 s1=>?_
 have hpp:pp.isNone = false:=by
  obtain ⟨_,h2,_⟩:=gc s1; rw [h2]; rfl
 refine dy hpp ?_
 have mk:∀ {l:List As} {h:Hp} {K:Sl->Hp->Prop},az l h->(∀ v h',az (vQ fN v (replicate n none)::l) h'->K v h')->hpv prog (Instr.makeSlice nz (.int .i64 s.fVa) (.int .i64 s.fVa)) rc K h:=by
  intro l h K s2 k
  rw [hn]
  exact oE (τ:=Ptr) (x0:=none) (enc:=cP) (n:=n) (T:=fN) (m:=1) el_SPkern_call rfl s2 (by omega) (by omega) k
 have em:s.fVa.toNat = n:=by omega
 refine ⟨?_,?_⟩
 ·refine mu (sp_mail_New s.fVa (by omega) (by omega)) s1 fun pm h2 s2=>?_
  refine ⟨?_,?_⟩
  ·refine mu (sJ s.fVa (by omega) (by omega)) s2 fun pe h3 s3=>?_
   rw [em] at s3
   refine mk s3 fun cs h4 s4=>?_
   refine py s4 fun b h5 s5=>?_
   refine Lp.intro (fun (i:Int) h=>newI s b n pp pm pe cs i h) (fun (i:Int) _=>n - i.toNat) (new_start (bc [0,4,3,2,1] s5 rfl)) ?_
   intro i h H
   unfold kern_New_l1
   refine aX (fun d=>new_round hn8 H (by have:=of_decide_eq_true d; omega)) (fun d=>?_)
   have:i = n:=by obtain ⟨j,_,_,e,hj,_⟩:=H; have:=of_decide_eq_false d; omega
   subst this
   exact new_end hs hn H
  ·refine mk s2 fun cs h3 s3=>?_
   refine mu (sJ s.fVa (by omega) (by omega)) s3 fun pe h4 s4=>?_
   rw [em] at s4
   refine py s4 fun b h5 s5=>?_
   refine Lp.intro (fun (i:Int) h=>newI s b n pp pm pe cs i h) (fun (i:Int) _=>n - i.toNat) (new_start (bc [0,3,2,0,0] s5 rfl)) ?_
   intro i h H
   unfold kern_New_l2
   refine aX (fun d=>new_round hn8 H (by have:=of_decide_eq_true d; omega)) (fun d=>?_)
   have:i = n:=by obtain ⟨j,_,_,e,hj,_⟩:=H; have:=of_decide_eq_false d; omega
   subst this
   exact new_end hs hn H
 ·refine mk s1 fun cs h2 s2=>?_
  refine mu (sp_mail_New s.fVa (by omega) (by omega)) s2 fun pm h3 s3=>?_
  refine mu (sJ s.fVa (by omega) (by omega)) s3 fun pe h4 s4=>?_
  rw [em] at s4
  refine py s4 fun b h5 s5=>?_
  refine Lp.intro (fun (i:Int) h=>newI s b n pp pm pe cs i h) (fun (i:Int) _=>n - i.toNat) (new_start (bc [0,3,1,0,0] s5 rfl)) ?_
  intro i h H
  unfold kern_New_l3
  refine aX (fun d=>new_round hn8 H (by have:=of_decide_eq_true d; omega)) (fun d=>?_)
  have:i = n:=by obtain ⟨j,_,_,e,hj,_⟩:=H; have:=of_decide_eq_false d; omega
  subst this
  exact new_end hs hn H
end
section
open Go Mb
def tX (a0:Int) (Rec17:(Sl × Int)->Hp->Prop) (s16:Sl × Int) (x32:Int) (Rec26:(Sl × Int)->Hp->Prop) (s25:Sl × Int):Hp->Prop:=br (decide (s25.2 < a0)) ( hpv prog (Instr.buildSlice ou 1 #[(0,(.agg (eo.C (⟨x32,s25.2,0,(⟨0,0,0,0,0⟩:ah),0,0⟩:eo)).toArray))]) oQ fun (v41:Sl)=>hpv prog (Builtin.append_ #[ou,ou] ou #[(sv s25.1),(sv v41)]) oQ fun (v42:Sl)=>Rec26 (v42,(i64.wrap (s25.2 + 1)))) ( Rec17 (s25.1,(i64.wrap (s16.2 + 1))))
def tY (a0:Int) (Rec11:(Sl × Int)->Hp->Prop) (s10:Sl × Int) (v27:Sl) (Rec17:(Sl × Int)->Hp->Prop) (s16:Sl × Int):Hp->Prop:=br (decide (s16.2 < (v27.len:Int))) ( ix v27 s16.2 fun q31=>ld (q31.1,q31.2 + Int.toNat s16.2 * 1) (cI .i64) fun x32=>Lp (tX a0 Rec17 s16 x32) (s16.1,0)) ( Rec11 (s16.1,(i64.wrap (s10.2 + 1))))
def tZ (a0:Int) (a1:Int) (K:Sl->Hp->Prop) (Rec11:(Sl × Int)->Hp->Prop) (s10:Sl × Int):Hp->Prop:=br (decide (s10.2 < a1)) ( hpv prog (Instr.buildSlice dR 2 #[(0,(.int .i64 3)),(1,(.int .i64 2))]) cF fun (v27:Sl)=>Lp (tY a0 Rec11 s10 v27) (s10.1,0)) ( K s10.1)
def sh_fair_Rounds (a0:Int) (a1:Int) (K:Sl->Hp->Prop):Hp->Prop:=br ((((decide (a0 < 1)) || (decide (a0 > 8))) || (decide (a1 < 0))) || (decide (a1 > 500))) ( K (⟨none,0,0,none⟩:Sl)) ( hpv prog (Instr.buildSlice ou 0 #[]) oQ fun (v23:Sl)=>Lp (tZ a0 a1 K) (v23,0))
theorem sim_fair_Rounds (a0:Int) (a1:Int) {K:Sl->Hp->Prop} {h:Hp} (H:sh_fair_Rounds a0 a1 K h):cl prog vM [(.int .i64 a0),(.int .i64 a1)] oQ K h:=z_i func17 p p fun _=>O<|U p<|al<|O<|M p<|J (ci p p)<|M p<|W p p (aM _) (fun g1=>wv<|ai p)<|W p p (aM _) (fun g2=>wv<|oR (aC p g2) p)<|J (dC p p)<|M p<|W p p (aM _) (fun g3=>wv<|ai p)<|W p p (aM _) (fun g4=>wv<|ci (aC p g4) p)<|J (dC p p)<|M p<|W p p (aM _) (fun g5=>wv<|ai p)<|W p p (aM _) (fun g6=>wv<|oR (aC p g6) p)<|J (dC p p)<|ad<|aw p H (fun k7 H8=>O<|U p<|aj<|Z ⟨(⟨none,0,0,none⟩:Sl),p,H8⟩) fun k7 H8=>an<|O<|aa<|aR H8 (bt (vs:=[]) p) p fun v23 _ H9=>U p<|al<|O<|M p<|M p<|ad<|av<|bv (step:=tZ a0 a1 K) (fun s10=>[(0,(.int .i64 a0)),(5,(sv s10.1)),(24,(.int .i64 a1)),(25,(.int .i64 s10.2))]) (fun s10=>[]) H9 (.cons p<|.cons p<|.cons p<|.cons p<|.nil _) .slnil fun Rec11 s10 _ H12=>O<|J (ci p p)<|ad<|al<|aw p H12 (fun k13 H14=>an<|al<|av<|O<|aa<|aR H14 (bt (vs:=[(.int .i64 3),(.int .i64 2)]) p) p fun v27 _ H15=>J (dE p underlying23 p)<|M p<|ad<|av<|bv (step:=tY a0 Rec11 s10 v27) (fun s16=>[(0,(.int .i64 a0)),(5,(sv s16.1)),(24,(.int .i64 a1)),(25,(.int .i64 s10.2)),(27,(sv v27)),(28,(.int .i64 (v27.len:Int))),(29,(.int .i64 s16.2))]) (fun s16=>[]) H15 (.cons p<|.cons p<|.cons p<|.cons p<|.cons p<|.cons p<|.cons p<|.nil _) .slnil fun Rec17 s16 _ H18=>O<|J (ci p p)<|ad<|al<|aw p H18 (fun k19 H20=>an<|al<|av<|O<|cn H20 fun q31 e21 h22 H23=>J (bd dz (aH p<|aW e21) p h22)<|aa<|aV H23 ba p (fun _=>p) p fun x32 H24=>U p<|O<|M p<|M p<|ad<|av<|bv (step:=tX a0 Rec17 s16 x32) (fun s25=>[(0,(.int .i64 a0)),(5,(sv s25.1)),(7,(.int .i64 x32)),(24,(.int .i64 a1)),(25,(.int .i64 s10.2)),(27,(sv v27)),(28,(.int .i64 (v27.len:Int))),(29,(.int .i64 s16.2)),(33,(.int .i64 a0)),(34,(.int .i64 s25.2))]) (fun s25=>[]) H24 (.cons p<|.cons p<|.cons p<|.cons p<|.cons p<|.cons p<|.cons p<|.cons p<|.cons p<|.cons p<|.nil _) .slnil fun Rec26 s25 _ H27=>O<|J (ci p p)<|ad<|al<|aw p H27 (fun k28 H29=>an<|al<|av<|O<|M p<|U p<|ap<|M p<|M p<|M p<|J (aZ p<|build_88_0_1 x32 s25.2)<|aa<|aR H29 (bt (vs:=[(.agg (eo.C (⟨x32,s25.2,0,(⟨0,0,0,0,0⟩:ah),0,0⟩:eo)).toArray)]) p) p fun v41 _ H30=>aa<|aR H30 (dQ p p) p fun v42 _ H31=>U p<|ap<|J (bj p p)<|M p<|ad<|cD (v42,(i64.wrap (s25.2 + 1))) H31 (.cons p<|.cons p<|.cons p<|.cons p<|.cons p<|.cons p<|.cons p<|.cons p<|.cons p<|.cons p<|.nil _) .slnil) fun k28 H29=>bf<|ap<|J (bj p p)<|M p<|ad<|cD (s25.1,(i64.wrap (s16.2 + 1))) H29 (.cons p<|.cons p<|.cons p<|.cons p<|.cons p<|.cons p<|.cons p<|.nil _) .slnil) fun k19 H20=>bf<|ap<|J (bj p p)<|M p<|ad<|cD (s16.1,(i64.wrap (s10.2 + 1))) H20 (.cons p<|.cons p<|.cons p<|.cons p<|.nil _) .slnil) fun k13 H14=>bf<|O<|M p<|U p<|aj<|Z ⟨s10.1,p,H14⟩
def rU (a0:Sl) (a1:Int) (a2:Int) (K:Int->Hp->Prop) (Rec2:(Int × Int × Int)->Hp->Prop) (s1:Int × Int × Int):Hp->Prop:=br (decide (s1.2.2 < (a0.len:Int))) ( ix a0 s1.2.2 fun q15=>ld (q15.1,q15.2 + Int.toNat s1.2.2 * 10) eo.C fun x16=>br ((x16.fKind == a1) && (x16.fQa == a2)) ( Rec2 ((mx s1.1 0),0,(i64.wrap (s1.2.2 + 1)))) ( Rec2 ((mx s1.1 (i64.wrap (s1.2.1 + 1))),(i64.wrap (s1.2.1 + 1)),(i64.wrap (s1.2.2 + 1))))) ( K s1.1)
def sh_fair_Longest (a0:Sl) (a1:Int) (a2:Int) (K:Int->Hp->Prop):Hp->Prop:=Lp (rU a0 a1 a2 K) (0,0,0)
theorem sim_fair_Longest (a0:Sl) (a1:Int) (a2:Int) {K:Int->Hp->Prop} {h:Hp} (H:sh_fair_Longest a0 a1 a2 K h):cl prog pG [(sv a0),(.int .i64 a1),(.int .i64 a2)] eE K h:=z_i func50 p p fun _=>O<|U p<|O<|J (au p)<|U p<|al<|O<|M p<|J (dE p underlying51 p)<|M p<|ad<|av<|bv (step:=rU a0 a1 a2 K) (fun s1=>[(1,(.int .i64 a1)),(2,(.int .i64 a2)),(7,(.int .i64 s1.1)),(8,(.int .i64 s1.2.1)),(11,(sv a0)),(12,(.int .i64 (a0.len:Int))),(13,(.int .i64 s1.2.2))]) (fun s1=>[]) H (.cons p<|.cons p<|.cons p<|.cons p<|.cons p<|.cons p<|.cons p<|.nil _) .slnil fun Rec2 s1 _ H3=>O<|J (ci p p)<|ad<|al<|aw p H3 (fun k4 H5=>an<|al<|av<|O<|cn H5 fun q15 e6 h7 H8=>J (bd slc_51 (aH p<|aW e6) p h7)<|aa<|gx H8 ag_88 p (fun _=>p) p fun x16 H9=>aa<|aL (l:=eo.C (⟨0,0,0,(⟨0,0,0,0,0⟩:ah),0,0⟩:eo)) zero_88 p p fun b10=>aa<|aO (k:=0) (vs:=eo.C x16) inf_88 p p p p p p p<|ad<|O<|M p<|J (bj p p)<|U p<|al<|O<|J (ae fld_88_0 p)<|bk (bh (k:=0) ba p p p) p<|M p<|J (bP p p)<|M p<|W p p (ax _) (fun g10=>wv<|ae fld_88_1 p)<|W p p (ax _) (fun g11=>cv<|bh (k:=0) ba (aC p g11) p p)<|W p p (ax _) (fun g12=>wv<|ai p)<|W p p (ax _) (fun g13=>wv<|bP (aC p g13)<|aC p g13)<|J (bN p p)<|ad<|aw p H9 (fun k14 H15=>ap<|U p<|ap<|M p<|M p<|J (v_maxT p p)<|U p<|ap<|J (bj p p)<|M p<|ad<|cD ((mx s1.1 0),0,(i64.wrap (s1.2.2 + 1))) H15 (.cons p<|.cons p<|.cons p<|.cons p<|.cons p<|.cons p<|.cons p<|.nil _)<|.cons _ .slnil) fun k14 H15=>an<|ap<|M p<|M p<|J (v_maxT p p)<|U p<|ap<|J (bj p p)<|M p<|ad<|cD ((mx s1.1 (i64.wrap (s1.2.1 + 1))),(i64.wrap (s1.2.1 + 1)),(i64.wrap (s1.2.2 + 1))) H15 (.cons p<|.cons p<|.cons p<|.cons p<|.cons p<|.cons p<|.cons p<|.nil _)<|.cons _ .slnil) fun k4 H5=>bf<|O<|M p<|U p<|aj<|Z ⟨s1.1,p,H5⟩
def yb (a0:Sl) (a1:Int) (a2:Int) (K:Bool->Hp->Prop) (Rec2:Int->Hp->Prop) (s1:Int):Hp->Prop:=br (decide (s1 < a1)) ( cl prog pG [(sv a0),(.int .i64 2),(.int .i64 s1)] eE fun r14=>br (!(decide (r14 >= a2))) ( cl prog pG [(sv a0),(.int .i64 3),(.int .i64 s1)] eE fun r20=>br (decide (r20 >= a2)) ( K false) ( Rec2 (i64.wrap (s1 + 1)))) ( K false)) ( K true)
def sh_fair_Fair (a0:Sl) (a1:Int) (a2:Int) (K:Bool->Hp->Prop):Hp->Prop:=Lp (yb a0 a1 a2 K) 0
theorem sim_fair_Fair (a0:Sl) (a1:Int) (a2:Int) {K:Bool->Hp->Prop} {h:Hp} (H:sh_fair_Fair a0 a1 a2 K h):cl prog n_fair_Fair [(sv a0),(.int .i64 a1),(.int .i64 a2)] aB K h:=z_i func21 p p fun _=>O<|U p<|al<|O<|M p<|M p<|ad<|av<|bv (step:=yb a0 a1 a2 K) (fun s1=>[(0,(sv a0)),(2,(.int .i64 a2)),(8,(.int .i64 a1)),(9,(.int .i64 s1))]) (fun s1=>[]) H (.cons p<|.cons p<|.cons p<|.cons p<|.nil _) .slnil fun Rec2 s1 _ H3=>O<|J (ci p p)<|ad<|al<|aw p H3 (fun k4 H5=>an<|al<|av<|O<|M p<|U p<|O<|M p<|M p<|aa<|D H5 en_50 fun r14 _ H6=>M p<|J (kr p p)<|M p<|W p p (aM _) (fun g7=>wv<|ai p)<|W p p (aM _) (fun g8=>wv<|ai p)<|bV H6 (fun k10 H11=>G (F<|ch k10)<|gK H11 en_50 (aS (aC p k10)<|aS p<|aS (aC p k10) bT) p fun r20 _ H12=>G (F<|ch k10)<|z_p (ai p)<|G (F<|ch k10)<|z_p (kr p p)<|J (ar p (ch k10) p)<|ad<|aw p H12 (fun k13 H14=>O<|U p<|aj<|Z ⟨false,p,H14⟩) fun k13 H14=>an<|ap<|J (bj p p)<|M p<|ad<|cD (i64.wrap (s1 + 1)) H14 (.cons p<|.cons p<|.cons p<|.cons p<|.nil _) .slnil) fun k10 H11=>Y (cd<|bJ k10)<|Y (cd<|bJ k10)<|Y (cd<|bJ k10)<|J (aU p (bJ k10) p)<|ad<|nl p p<|O<|U p<|aj<|Z ⟨false,p,H11⟩) fun k4 H5=>bf<|O<|U p<|aj<|Z ⟨true,p,H5⟩
end
end Go.Proofs.YtemoifebbhoinabGreatDoor
