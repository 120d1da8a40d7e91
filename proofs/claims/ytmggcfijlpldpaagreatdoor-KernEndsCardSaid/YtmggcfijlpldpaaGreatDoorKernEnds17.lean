/- Part of the proof of: The law KernEnds returns true for every input, and leaves its arguments as they were. -/
import Derived.Test.YtmggcfijlpldpaaGreatDoorKernEnds16
set_option linter.all false
set_option maxRecDepth 20000
namespace Go.Proofs.YtmggcfijlpldpaaGreatDoor
open Go Mb
variable {ET:Nat} {EF:Nat × Nat}
abbrev dv (b:Nat):Value:=.iface bf (.pointer (some ⟨b,0,none⟩))
theorem g0:Tryz.prog.globals.size = 4:=by kernel_rfl
theorem g1:typeHandle Tryz.prog bf = pv (some (4,bf)):=by kernel_rfl
theorem g2:(Tryz.prog.globals[0]?).map (·.type) = some 243:=by kernel_rfl
theorem oneErr:((List.range 350).filter fun t=>Tryz.prog.rowNamed t [101,114,114,111,114]) = [195]:=by kernel_rfl
theorem g4:Tryz.prog.types.size = 350:=by kernel_rfl
abbrev rtV (T:Nat):Value:=.iface rr (.agg #[pv (some (4,T))])
abbrev vl (T c f:Nat):aJ:=⟨some (4,T),some (c,0),f⟩
abbrev vlV (T c f:Nat):Value:=.agg (aJ.C (vl T c f)).toArray
section
variable (b:Nat) (K:Next→Hp→Prop) (h:Hp)
theorem x7:hp Tryz.prog (callFunc fY #[dv b]) K h = K (.value (rtV bf)) h:=by kernel_rfl
theorem x8:hp Tryz.prog (callFunc cU #[.iface bA (.pointer (some ⟨b,0,none⟩))]) K h = (true = true∧∀ e,h e = none→K (.value (vlV bA e 150)) (dW h e (.cells #[pv (some (b,0))] bA (0,0)))):=by kernel_rfl
theorem x8':hp Tryz.prog (callFunc cU #[dv b]) K h = (true = true∧∀ e,h e = none→K (.value (vlV bf e 150)) (dW h e (.cells #[pv (some (b,0))] bf (0,0)))):=by kernel_rfl
theorem x10:hp Tryz.prog (callMethod (rtV bA) "Kind" #[]) K h = K (.value (.int .u8 22)) h:=by kernel_rfl
theorem x11:hp Tryz.prog (callMethod (rtV bA) "Elem" #[]) K h = K (.value (rtV bf)) h:=by kernel_rfl
theorem x12:hp Tryz.prog (callMethod (rtV bf) "Kind" #[]) K h = K (.value (.int .u8 22)) h:=by kernel_rfl
theorem x13:hp Tryz.prog (callMethod (rtV bf) "Comparable" #[]) K h = K (.value (.bool true)) h:=by kernel_rfl
theorem x14:hp Tryz.prog (callMethod (rtV bf) "AssignableTo" #[rtV bf]) K h = K (.value (.bool true)) h:=by kernel_rfl
theorem x15 (c:Nat):hp Tryz.prog (callFunc iw #[vlV bA c 150]) K h = K (.value (rtV bA)) h:=by kernel_rfl
theorem x16 (c:Nat):hp Tryz.prog (callFunc eR #[vlV bA c 150]) K h =
  hp Tryz.prog (do let r ← Extern.ReflectliteValue.isNil bA ⟨c,0,none⟩ 150 22; pure (.value r)) K h:=by kernel_rfl
theorem x17:hp Tryz.prog (callMethod (rtV bf) "Implements" #[rtV gj]) K h = K (.value (.bool true)) h:=by kernel_rfl
theorem x18 (c:Nat):hp Tryz.prog (callFunc fd #[vlV bA c 150]) K h =
  hp Tryz.prog (do let r ← Extern.ReflectliteValue.elem bA ⟨c,0,none⟩ 150 22; pure (.value r)) K h:=by kernel_rfl
theorem x19 (c d:Nat):hp Tryz.prog (callFunc fu #[vlV bf c 406,vlV bf d 150]) K h =
  hp Tryz.prog (do let r ← (do let v ← loadVar bf ⟨d,0,none⟩; storeVar bf ⟨c,0,none⟩ v; pure (Value.tuple #[])); pure (.value r)) K h:=by kernel_rfl
theorem y1 (c:Nat) (K:Value→Hp→Prop):hp Tryz.prog (loadVar bA ⟨c,0,none⟩) K h = ∃ v,kU h ⟨c,0,none⟩ = some v∧K v h:=by kernel_rfl
theorem y2 (c:Nat) (K:Value→Hp→Prop):hp Tryz.prog (loadVar bf ⟨c,0,none⟩) K h = ∃ v,kU h ⟨c,0,none⟩ = some v∧K v h:=by kernel_rfl
theorem y3 (b:Nat) (K:Value→Hp→Prop):hp Tryz.prog (Extern.ReflectliteValue.mk bf ⟨b,0,none⟩ Extern.ReflectliteValue.flagAddr) K h = K (vlV bf b 406) h:=by kernel_rfl
theorem y4 (K:Option TypeId→Hp→Prop):hp Tryz.prog (Extern.Rtype.elem? bA) K h = K (some bf) h:=by kernel_rfl
theorem y5 (b c:Nat) (K:Unit→Hp→Prop):hp Tryz.prog (storeVar bf ⟨c,0,none⟩ (.pointer (some ⟨b,0,none⟩))) K h = hp Tryz.prog (storeCells ⟨c,0,none⟩ [.pointer (some ⟨b,0,none⟩)]) K h:=by kernel_rfl
theorem y6 (K:Value→Hp→Prop) {a b n m:Nat}:hp Tryz.prog (do eqGuard .eql 195 (.tmp n) (.tmp m) (dv a) (dv b); binOp .eql 195 (dv a) (dv b):Sem Value) K h = hp Tryz.prog (do let r ← sameAddr ⟨a,0,none⟩ ⟨b,0,none⟩; pure (.bool r)) K h:=by kernel_rfl
theorem x25 (K:Bool→Hp→Prop) {a b:Nat} {ca cb:List Value} {Ta Tb:Nat} (ha:h a = some (.cells ca.toArray Ta (0,0))) (hb:h b = some (.cells cb.toArray Tb (0,0))) (H:K (a == b) h):hp Tryz.prog (sameAddr ⟨a,0,none⟩ ⟨b,0,none⟩) K h:=by
  unfold sameAddr
  rcases Decidable.em (a = b) with e | e
  · subst e
    rw [if_pos (by simp)]
    have H':K true h:=by simpa using H
    simpa [hp_pure] using H'
  · rw [if_neg (by simpa using e)]
    have fa:∀ (K:Bool→Hp→Prop) (o:Nat),hp Tryz.prog (frozen ⟨a,o,none⟩) K h↔K false h:=fun K o =>
      ⟨fun ⟨o',h1,h2⟩=>by rw [ha] at h1; cases h1; simpa [hp,ut] using h2,fun h2=>⟨_,ha,by simpa [hp,ut] using h2⟩⟩
    have fb:∀ (K:Bool→Hp→Prop) (o:Nat),hp Tryz.prog (frozen ⟨b,o,none⟩) K h↔K false h:=fun K o =>
      ⟨fun ⟨o',h1,h2⟩=>by rw [hb] at h1; cases h1; simpa [hp,ut] using h2,fun h2=>⟨_,hb,by simpa [hp,ut] using h2⟩⟩
    have sa:∀ (K:Option (TypeId × Nat)→Hp→Prop),hp Tryz.prog (shape a) K h↔K (some (Ta,ca.length)) h:=fun K =>
      ⟨fun ⟨o',h1,h2⟩=>by rw [ha] at h1; cases h1; simpa [hp,oshape] using h2,fun h2=>⟨_,ha,by simpa [hp,oshape] using h2⟩⟩
    have sb:∀ (K:Option (TypeId × Nat)→Hp→Prop),hp Tryz.prog (shape b) K h↔K (some (Tb,cb.length)) h:=fun K =>
      ⟨fun ⟨o',h1,h2⟩=>by rw [hb] at h1; cases h1; simpa [hp,oshape] using h2,fun h2=>⟨_,hb,by simpa [hp,oshape] using h2⟩⟩
    have eb:(a == b) = false:=by simpa using e
    rw [eb] at H
    simp [cR,fa,fb,sa,sb,noView,viewAt,mayBeOne,stringish,hp_pure,H]
end
section
variable {P:Program} {τ:Type} {enc:τ→Value} {K:τ→Hp→Prop} {h:Hp}
theorem fx {m:Sem Value} (r:τ) (e:∀ (K:Value→Hp→Prop) h,hp P m K h = K (enc r) h) (k:K r h):hpv P m enc K h:=⟨by rw [e]; exact ⟨r,rfl,k⟩⟩
theorem tF {m:Sem Next} (r:τ) (e:∀ (K:Next→Hp→Prop) h,hp P m K h = K (.value (enc r)) h) (k:K r h):cln P m enc K h:=⟨by rw [e]; exact .inl ⟨r,rfl,k⟩⟩
theorem cln_en {m:Sem Next} {f:FuncId} {vs:List Value} (e:∀ (K:Next→Hp→Prop) h,hp P m K h = K (.enter f vs.toArray) h) (k:cl P f vs enc K h):cln P m enc K h:=⟨by rw [e]; exact .inr ⟨f,_,rfl,k⟩⟩
end
abbrev etB (ET:Nat) (EF:Nat × Nat):As:=obj 0 (.cells #[rtV gj] ET EF)
abbrev trB (b:Nat) (t:bY):As:=blk b nC (bY.C t)
theorem en_0 (b n:Nat) (K:Value→Hp→Prop) (h:Hp):hp Tryz.prog (do eqGuard .eql 195 (.tmp n) (.const Value.nilIface) (dv b) Value.nilIface; binOp .eql 195 (dv b) Value.nilIface:Sem Value) K h = K (.bool false) h:=by kernel_rfl
theorem en_00 (n:Nat) (K:Value→Hp→Prop) (h:Hp):hp Tryz.prog (do eqGuard .eql 195 (.tmp n) (.const Value.nilIface) Value.nilIface Value.nilIface; binOp .eql 195 Value.nilIface Value.nilIface:Sem Value) K h = K (.bool true) h:=by kernel_rfl
theorem en_1 (b n:Nat) (K:Value→Hp→Prop) (h:Hp):hp Tryz.prog (do eqGuard .eql 20 (.tmp n) (.const Value.nilIface) (.iface bA (.pointer (some ⟨b,0,none⟩))) Value.nilIface; binOp .eql 20 (.iface bA (.pointer (some ⟨b,0,none⟩))) Value.nilIface:Sem Value) K h = K (.bool false) h:=by kernel_rfl
theorem sp_As_nil (v:Value):Sp Tryz.prog uz [Value.nilIface,v] aA [] (fun r=>pa_ (r = false) []):=by
  intro h st
  refine sim_errors_As _ _ ?_
  unfold wN
  exact fx true (en_00 _) (dU rfl (aW rfl st))
section
variable {h:Hp} {b c d:Nat}
theorem c22 {K:Bool→Hp→Prop} (e:kU h ⟨c,0,none⟩ = some (.pointer (some ⟨b,0,none⟩))) (H:K false h):cln Tryz.prog (callFunc eR #[vlV bA c 150]) aA K h:=by
  constructor
  rw [x16,cR]
  unfold Extern.ReflectliteValue.isNil
  rw [if_neg (by decide)]
  rw [cR,y1]; exact ⟨_,e,.inl ⟨false,rfl,H⟩⟩
theorem c23 {K:aJ→Hp→Prop} (e:kU h ⟨c,0,none⟩ = some (.pointer (some ⟨b,0,none⟩))) (H:K (vl bf b 406) h):cln Tryz.prog (callFunc fd #[vlV bA c 150]) fA K h:=by
  constructor
  rw [x18,cR]
  unfold Extern.ReflectliteValue.elem
  rw [if_neg (by decide),cR,y1]
  refine ⟨_,e,?_⟩
  rw [cR,y4]
  show hp _ (Extern.ReflectliteValue.mk _ _ _) _ h
  rw [y3]; exact .inl ⟨_,rfl,H⟩
theorem c24 {K:Unit→Hp→Prop} (e:kU h ⟨d,0,none⟩ = some (.pointer (some ⟨b,0,none⟩))) (H:hp Tryz.prog (storeCells ⟨c,0,none⟩ [.pointer (some ⟨b,0,none⟩)]) (fun _=>K ()) h):cln Tryz.prog (callFunc fu #[vlV bf c 406,vlV bf d 150]) R_ K h:=by
  constructor
  rw [x19,cR,cR,y2]; refine ⟨_,e,?_⟩
  rw [cR,y5]; exact hp_mono _ (fun _ _ k=>.inl ⟨(),rfl,k⟩) _ H
theorem c8 {K:aJ→Hp→Prop} (H:∀ e,h e = none→K (vl bA e 150) (dW h e (.cells #[pv (some (b,0))] bA (0,0)))):cln Tryz.prog (callFunc cU #[.iface bA (.pointer (some ⟨b,0,none⟩))]) fA K h:=by
  constructor
  rw [x8]
  exact ⟨rfl,fun e he=>.inl ⟨_,rfl,H e he⟩⟩
theorem c8' {K:aJ→Hp→Prop} (H:∀ e,h e = none→K (vl bf e 150) (dW h e (.cells #[pv (some (b,0))] bf (0,0)))):cln Tryz.prog (callFunc cU #[dv b]) fA K h:=by
  constructor
  rw [x8']
  exact ⟨rfl,fun e he=>.inl ⟨_,rfl,H e he⟩⟩
end
theorem blk_cell {l:List As} {h:Hp} {i b:Nat} {T:TypeId} {c:List Value} {v:Value} (hi:l[i]? = some (blk b T c)) (hv:c[0]? = some v) (s:aG l h):kU h ⟨b,0,none⟩ = some v:=by
  obtain ⟨g1,a1,sub1⟩:=dS hi s
  have:=sub1 _ _ a1
  unfold kU
  rw [this]
  simpa using hv
theorem sp_as (b c d:Nat) (p:Ptr):Sp Tryz.prog uy [dv b,.iface bA (.pointer (some ⟨c,0,none⟩)),vlV bA d 150,rtV bf] aA
    [blk c bf [pv p],blk d bA [pv (some (c,0))]] (fun r=>pa_ (r = true) [blk c bf [pv (some (b,0))]]):=by
  intro h st
  refine sim_errors_as _ _ _ _ ?_
  unfold sh_errors_as
  refine ⟨fun s h=>s = dv b∧aG [blk c bf [pv p],blk d bA [pv (some (c,0))]] h,fun _ _=>0,⟨rfl,st⟩,?_⟩
  rintro _ h1 ⟨rfl,s1⟩
  unfold xm
  refine tF (rtV bf) (fun K h=>x7 b K h) ?_
  refine tF true (fun K h=>x14 K h) (dU rfl ?_)
  refine c23 (blk_cell (i:=1) rfl rfl s1) ?_
  refine c8' fun e he=>?_
  have s2:aG (blk e bf [pv (some (b,0))]::_) _:=new_s (o:=.cells #[pv (some (b,0))] bf (0,0)) s1 he
  refine c24 (blk_cell (i:=0) (T:=bf) (c:=[pv (some (b,0))]) rfl rfl s2) ?_
  obtain ⟨g2,a2,sub2⟩:=dS (i:=1) (A:=blk c bf [pv p]) rfl s2
  refine hp_storeCells _ 0 0 [pv p] _ (sub2 _ _ a2) (by simp) rfl ?_
  have s3:aG (_::blk c bf [pv (some (b,0))]::_) _:=obj_set (o':=.cells #[pv (some (b,0))] bf (0,0)) (i:=1) s2 rfl
  exact aW rfl (cc (l:=[_,_]) (bb [0,1] s3 rfl))
theorem sp_As (b c:Nat) (p:Ptr):Sp Tryz.prog uz [dv b,.iface bA (.pointer (some ⟨c,0,none⟩))] aA
    [(etB ET EF),blk c bf [pv p]] (fun r=>pa_ (r = true) [(etB ET EF),blk c bf [pv (some (b,0))]]):=by
  intro h st
  refine sim_errors_As _ _ ?_
  unfold wN
  refine fx false (en_0 b _) (dB rfl ?_)
  refine fx false (en_1 c _) (dB rfl ?_)
  unfold xp
  refine c8 fun e he=>?_
  have s2:aG (blk e bA [pv (some (c,0))]::_) _:=new_s (o:=.cells #[pv (some (c,0))] bA (0,0)) st he
  refine tF (rtV bA) (fun K h=>x15 K h e) ?_
  refine tF 22 (fun K h=>x10 K h) (dU rfl ?_)
  refine c22 (blk_cell (i:=0) (T:=bA) (c:=[pv (some (c,0))]) rfl rfl s2) (dB rfl ?_)
  unfold xo
  refine tF (rtV bf) (fun K h=>x11 K h) ?_
  refine tF 22 (fun K h=>x12 K h) (dU rfl ?_)
  obtain ⟨g3,a3,sub3⟩:=dS (i:=1) (A:=etB ET EF) rfl s2
  refine ⟨rtV gj,⟨_,_,_,sub3 _ _ a3,fun i v hv=>?_⟩,?_⟩
  · rcases i with _ | i <;> first | exact hv | simp [cV] at hv
  refine tF true (fun K h=>x17 K h) (dB rfl ?_)
  unfold sm
  refine cO [2,0,1] (rest:=[(etB ET EF)]) (sp_as b c e p) s2 rfl fun r h' s3=>?_
  obtain ⟨rfl,s4⟩:=bt.1 s3
  exact aW rfl (bb [1,0] s4 rfl)
abbrev firstOf (b:Nat):Ptr × Bool:=(some (b,0),true)
theorem sp_First (b:Nat):Sp Tryz.prog jQ [dv b] eI [(etB ET EF)] (fun r=>pa_ (r = firstOf b) [(etB ET EF)]):=by
  intro h st
  refine sim_trap_First _ ?_
  unfold uN
  refine pf st fun c h1 s1=>?_
  refine fx (.iface bA (.pointer (some ⟨c,0,none⟩))) (fun K h=>by kernel_rfl) ?_
  refine cO [1,0] (rest:=[]) (sp_As b c none) s1 rfl fun r h' s2=>?_
  obtain ⟨rfl,s3⟩:=bt.1 s2
  refine dU rfl ?_
  refine bk (some (b,0)) s3 (i:=1) rfl rfl rfl ?_
  unfold mG
  refine dB rfl ?_
  refine bk (some (b,0)) s3 (i:=1) rfl rfl rfl ?_
  exact aW rfl (cc (l:=[_]) (bb [1] s3 rfl))
theorem sp_First_nil:Sp Tryz.prog jQ [Value.nilIface] eI [] (fun r=>pa_ (r = (none,false)) []):=by
  intro h st
  refine sim_trap_First _ ?_
  unfold uN
  refine pf st fun c h1 s1=>?_
  refine fx (.iface bA (.pointer (some ⟨c,0,none⟩))) (fun K h=>by kernel_rfl) ?_
  refine tP (sp_As_nil _) s1 fun r h' hr s2=>?_
  subst hr
  refine dB rfl ?_
  unfold mG
  exact dU rfl (aW rfl trivial)
theorem sp_Of (n:Int) (hn:n ≠ 0):Sp Tryz.prog ko [.int .i64 n] iv [] (fun r=>ex fun b=>pa_ (r = dv b) [trB b ⟨n,-1,⟨0,0,0,0,0⟩,.nilIface⟩]):=by
  intro h st
  refine sim_trap_Of _ ?_
  unfold sh_trap_Of
  refine dB (by simpa using hn) ?_
  refine pf st fun b h1 s1=>?_
  refine fx (dv b) (fun K h=>by kernel_rfl) ?_
  exact ⟨b,aW rfl s1⟩
theorem sp_Of0:Sp Tryz.prog ko [.int .i64 0] iv [] (fun r=>pa_ (r = Value.nilIface) []):=by
  intro h st
  refine sim_trap_Of _ ?_
  unfold sh_trap_Of
  exact dU rfl (aW rfl st)
theorem sp_Code (b:Nat) (t:bY):Sp Tryz.prog uw [dv b] bg [(etB ET EF),trB b t] (fun r=>pa_ (r = t.fCode) [(etB ET EF),trB b t]):=by
  intro h st
  refine sim_trap_Code _ ?_
  unfold sh_trap_Code
  refine fx false (en_0 b _) (dB rfl ?_)
  refine bM (i:=0) (sp_First b) rfl st fun r h' hr s2=>?_
  subst hr
  refine dU rfl (cy ?_)
  refine bk t.fCode s2 (i:=1) rfl rfl rfl ?_
  exact aW rfl s2
theorem sp_In (env:Int) (c:ah) (b:Nat) (t:bY):Sp Tryz.prog n_trap_In [.int .i64 env,.agg (ah.C c).toArray,dv b] iv [(etB ET EF),trB b t]
    (fun r=>ex fun e=>pa_ (r = dv e) [trB e ⟨t.fCode,env,c,dv b⟩,(etB ET EF),trB b t]):=by
  intro h st
  refine sim_trap_In _ _ _ ?_
  unfold sh_trap_In
  refine fx false (en_0 b _) (dB rfl ?_)
  refine cO [] (rest:=[]) (sp_Code b t) st (List.append_nil _).symm fun r h' s2=>?_
  obtain ⟨rfl,s3⟩:=bt.1 s2
  refine fx ⟨t.fCode,env,c,dv b⟩ (fun K h=>by kernel_rfl) ?_
  refine pf s3 fun e h1 s4=>?_
  refine fx (dv e) (fun K h=>by kernel_rfl) ?_
  exact ⟨e,aW rfl s4⟩
theorem sp_Depth2 (b e:Nat) (t u:bY) (ht:t.fErr = dv e) (hu:u.fErr = Value.nilIface):Sp Tryz.prog wT [dv b] eC [(etB ET EF),trB b t,trB e u] (fun r=>pa_ (r = 2) [(etB ET EF),trB b t,trB e u]):=by
  intro h st
  refine sim_trap_Depth _ ?_
  unfold sh_trap_Depth
  refine bM (i:=0) (sp_First b) rfl st fun r h' hr s2=>?_
  subst hr
  refine ⟨fun s h=>(s = (0,some (b,0),true)∨s = (1,some (e,0),true)∨s = (2,none,false))∧aG [(etB ET EF),trB b t,trB e u] h,fun s _=>3 - s.1.toNat,⟨.inl rfl,s2⟩,?_⟩
  rintro s h1 ⟨rfl | rfl | rfl,s3⟩
  · unfold mH
    refine dU rfl (cy ?_)
    refine bk t.fErr s3 (i:=1) rfl rfl rfl ?_
    rw [ht]
    refine bM (i:=0) (sp_First e) rfl s3 fun r h' hr s4=>?_
    subst hr
    exact ⟨⟨.inr (.inl rfl),s4⟩,Nat.le_of_ble_eq_true rfl⟩
  · unfold mH
    refine dU rfl (cy ?_)
    refine bk u.fErr s3 (i:=2) rfl rfl rfl ?_
    rw [hu]
    refine tP sp_First_nil s3 fun r h' hr s4=>?_
    subst hr
    exact ⟨⟨.inr (.inr rfl),s4⟩,Nat.le_of_ble_eq_true rfl⟩
  · unfold mH
    exact dB rfl (aW rfl s3)
end Go.Proofs.YtmggcfijlpldpaaGreatDoor
namespace Go.Proofs.YtmggcfijlpldpaaGreatDoor
open Go Mb
set_option linter.unusedVariables false
def sh_strconv_Itoa (a0:Int) (K:ByteArray→Hp→Prop):Hp→Prop:=cl Tryz.prog jv [(.int .i64 a0)] dT fun r4=>K r4
theorem sim_strconv_Itoa (a0:Int) {K:ByteArray→Hp→Prop} {h:Hp} (H:sh_strconv_Itoa a0 K h):Ct Tryz.prog th #[(.int .i64 a0)] h fun v h'=>∃ r,v = dT r∧K r h':=au [(.int .i64 a0)] Tryz.func252 c c c fun _=>M<|O c<|M<|J c<|aa<|Z H en_253 fun r4 _ H1=>O c<|ai<|Y ⟨r4,c,H1⟩
end Go.Proofs.YtmggcfijlpldpaaGreatDoor
namespace Go.Proofs.YtmggcfijlpldpaaGreatDoor
open Go Mb
set_option linter.unusedVariables false
def mo (a0:Int) (K:ByteArray→Hp→Prop):Hp→Prop:=br (decide (a0 < 10)) ( hpv Tryz.prog (Instr.sliceAt uY (.string str_73df774b) (some (.int .i64 a0)) (some (.int .i64 (IntKind.i64.wrap (a0 + 1)))) none) dT fun (v8:ByteArray)=>K v8) ( hpv Tryz.prog (Instr.sliceAt uY (.string str_e9752c08) (some (.int .i64 (IntKind.i64.wrap (a0 * 2)))) (some (.int .i64 (IntKind.i64.wrap ((IntKind.i64.wrap (a0 * 2)) + 2)))) none) dT fun (v14:ByteArray)=>K v14)
theorem sO (a0:Int) {K:ByteArray→Hp→Prop} {h:Hp} (H:mo a0 K h):Ct Tryz.prog jh #[(.int .i64 a0)] h fun v h'=>∃ r,v = dT r∧K r h':=au [(.int .i64 a0)] Tryz.func255 c c c fun _=>M<|O c<|ak<|M<|J c<|p (cu c c)<|ad<|av c H (fun k1 H2=>M<|J c<|J c<|p (bq c c)<|aa<|aR H2 (eM c c c c c) c fun v8 _ H3=>O c<|ai<|Y ⟨v8,c,H3⟩) fun k1 H2=>an<|M<|J c<|p (v_mul c c)<|J c<|p (v_mul c c)<|p (bq c c)<|aa<|aR H2 (eM c c c c c) c fun v14 _ H4=>O c<|ai<|Y ⟨v14,c,H4⟩
def ga (a0:Int) (K:ByteArray→Hp→Prop) (b5:Nat) (s9:Int):Hp→Prop:=cl Tryz.prog ri [(.int .u64 s9)] eC fun r27=>hpv Tryz.prog (Instr.sliceAt wk (.pointer (some ⟨b5,0,none⟩)) (some (.int .i64 1)) (some (.int .i64 (IntKind.i64.wrap (1 + r27)))) none) R_Suint8 fun (v30:Sl)=>cl Tryz.prog ph [(sv v30),(.int .u64 s9)] R_ fun (_:Unit)=>br (decide (a0 < 0)) ( st (b5,0) [.int .u8 45]<|hpv Tryz.prog (Instr.sliceAt wk (.pointer (some ⟨b5,0,none⟩)) none (some (.int .i64 (IntKind.i64.wrap (1 + r27)))) none) R_Suint8 fun (v38:Sl)=>hpv Tryz.prog (convert 328 9 (sv v38)) dT fun (v39:ByteArray)=>K v39) ( hpv Tryz.prog (Instr.sliceAt wk (.pointer (some ⟨b5,0,none⟩)) (some (.int .i64 1)) (some (.int .i64 (IntKind.i64.wrap (1 + r27)))) none) R_Suint8 fun (v42:Sl)=>hpv Tryz.prog (convert 328 9 (sv v42)) dT fun (v43:ByteArray)=>K v43)
def jK (a0:Int) (a1:Int) (K:ByteArray→Hp→Prop):Hp→Prop:=br (a1 == 10) ( br ((decide (0 ≤ a0)) && (decide (a0 < 100))) ( cl Tryz.prog jh [(.int .i64 a0)] dT fun r19=>K r19) ( nw wk [.int .u8 0,.int .u8 0,.int .u8 0,.int .u8 0,.int .u8 0,.int .u8 0,.int .u8 0,.int .u8 0,.int .u8 0,.int .u8 0,.int .u8 0,.int .u8 0,.int .u8 0,.int .u8 0,.int .u8 0,.int .u8 0,.int .u8 0,.int .u8 0,.int .u8 0,.int .u8 0,.int .u8 0,.int .u8 0,.int .u8 0,.int .u8 0] fun b5=>br (decide (a0 < 0)) ( ga a0 K b5 (IntKind.u64.wrap (0 - (IntKind.u64.wrap a0)))) ( ga a0 K b5 (IntKind.u64.wrap a0)))) ( cl Tryz.prog qO [(sv (⟨none,0,0,none⟩:Sl)),(.int .u64 (IntKind.u64.wrap a0)),(.int .i64 a1),(.bool (decide (a0 < 0))),(.bool false)] R_Suint8_string fun r50=>K r50.2)
theorem pU (a0:Int) (a1:Int) {K:ByteArray→Hp→Prop} {h:Hp} (H:jK a0 a1 K h):Ct Tryz.prog gx #[(.int .i64 a0),(.int .i64 a1)] h fun v h'=>∃ r,v = dT r∧K r h':=au [(.int .i64 a0),(.int .i64 a1)] Tryz.func254 c c c fun _=>M<|O c<|ak<|M<|J c<|p (bL c c)<|ad<|av c H (fun k1 H2=>ak<|M<|J c<|p (v_le c c)<|J c<|V c c (ax _) (fun g3=>wv<|ag c)<|V c c (ax _) (fun g4=>wv<|cu (aD c g4) c)<|p (bT c c)<|ad<|av c H2 (fun k5 H6=>M<|J c<|aa<|Z H6 en_255 fun r19 _ H7=>O c<|ai<|Y ⟨r19,c,H7⟩) fun k5 H6=>an<|M<|aa<|to_alloc zero_325 c c H6 fun b5 _ H8=>ad<|M<|J c<|p (dX ⟨_,Tryz.underlying2⟩ Tryz.underlying22 c)<|O c<|eu (ga a0 K b5) (fun s9=>[(0,(.int .i64 a0)),(5,(.pointer (some ⟨b5,0,none⟩))),(6,(.int .u64 s9))]) (fun s9=>[]) (M<|J c<|p (cu c c)<|ad<|av c H8 (fun k21 H22=>aq<|J c<|p (v_neg c)<|O c<|cG (IntKind.u64.wrap (0 - (IntKind.u64.wrap a0))) H22 (.cons c<|.cons c<|.cons c<|.nil _) .slnil) fun k21 H22=>an<|cG (IntKind.u64.wrap a0) H22 (.cons c<|.cons c<|.cons c<|.nil _) .slnil) fun s9 _ H10=>M<|J c<|aa<|Z H10 en_256 fun r27 _ H11=>O c<|M<|J c<|p (bq c c)<|aa<|aR H11 (eM c c c c c) c fun v30 _ H12=>J c<|aa<|Z H12 en_257 fun r32 _ H13=>ad<|ak<|M<|J c<|p (cu c c)<|ad<|av c H13 (fun k14 H15=>M<|p (bp arr_325 c c (by decide))<|aa<|dp inf_5 c c c c c H15 fun _ H16=>ad<|M<|J c<|p (bq c c)<|aa<|aR H16 (eM c c c c c) c fun v38 _ H17=>aa<|aR H17 (x_convert c) c fun v39 _ H18=>O c<|ai<|Y ⟨v39,c,H18⟩) fun k14 H15=>an<|M<|J c<|p (bq c c)<|aa<|aR H15 (eM c c c c c) c fun v42 _ H19=>aa<|aR H19 (x_convert c) c fun v43 _ H20=>O c<|ai<|Y ⟨v43,c,H20⟩) fun k1 H2=>an<|M<|J c<|p (dX ⟨_,Tryz.underlying2⟩ Tryz.underlying22 c)<|J c<|J c<|p (cu c c)<|aa<|Z H2 en_258 fun r50 _ H23=>J c<|p (aj c c)<|p (aj c c)<|p (ar c)<|O c<|M<|J c<|O c<|ai<|Y ⟨r50.2,c,H23⟩
def mN (a0:Int) (K:ByteArray→Hp→Prop):Hp→Prop:=cl Tryz.prog gx [(.int .i64 a0),(.int .i64 10)] dT fun r4=>K r4
theorem tO (a0:Int) {K:ByteArray→Hp→Prop} {h:Hp} (H:mN a0 K h):Ct Tryz.prog jv #[(.int .i64 a0)] h fun v h'=>∃ r,v = dT r∧K r h':=au [(.int .i64 a0)] Tryz.func253 c c c fun _=>M<|O c<|M<|J c<|aa<|Z H en_254 fun r4 _ H1=>O c<|ai<|Y ⟨r4,c,H1⟩
end Go.Proofs.YtmggcfijlpldpaaGreatDoor
namespace Go.Proofs.YtmggcfijlpldpaaGreatDoor
open Go Mb
set_option linter.unusedVariables false
def py (K:Bool→Hp→Prop):Hp→Prop:=cl Tryz.prog ko [(.int .i64 3)] iv fun r5=>cl Tryz.prog n_trap_In [(.int .i64 2),(.agg (ah.C (⟨1,2,0,0,0⟩:ah)).toArray),r5] iv fun r6=>cl Tryz.prog jQ [r6] eI fun r9=>hpv Tryz.prog (do eqGuard .eql 195 (.tmp 12) (.const Value.nilIface) r6 Value.nilIface; binOp .eql 195 r6 Value.nilIface:Sem Value) aA fun (v13:Bool)=>br (v13 || r9.1.isNone) ( K false) ( br r9.2 ( nn r9.1 fun q21=>ld (q21.1,q21.2 + 1) (cI .i64) fun x23=>br (x23 == 2) ( ld (q21.1,q21.2 + 2) ah.C fun x30=>br (ah.eqb x30 (⟨1,2,0,0,0⟩:ah)) ( ld (q21.1,q21.2 + 0) (cI .i64) fun x38=>br (x38 == 3) ( cl Tryz.prog uw [r6] bg fun r43=>br (r43 == 3) ( cl Tryz.prog wT [r6] eC fun r48=>br (r48 == 2) ( cl Tryz.prog ko [(.int .i64 3)] iv fun r53=>cl Tryz.prog nL [r6,r53] aA fun r54=>br r54 ( cl Tryz.prog ko [(.int .i64 4)] iv fun r58=>cl Tryz.prog nL [r6,r58] aA fun r59=>br (!r59) ( cln Tryz.prog (callMethod r6 "Error" #[]) dT fun (v64:ByteArray)=>hpv Tryz.prog (do eqGuard .eql 9 (.tmp 64) (.const (.string oe)) (.string v64) (.string oe); binOp .eql 9 (.string v64) (.string oe):Sem Value) aA fun (v65:Bool)=>br v65 ( cl Tryz.prog ko [(.int .i64 0)] iv fun r68=>hpv Tryz.prog (do eqGuard .eql 195 (.tmp 68) (.const Value.nilIface) r68 Value.nilIface; binOp .eql 195 r68 Value.nilIface:Sem Value) aA fun (v69:Bool)=>K v69) ( K false)) ( K false)) ( K false)) ( K false)) ( K false)) ( K false)) ( K false)) ( K false)) ( K false))
theorem wD {K:Bool→Hp→Prop} {h:Hp} (H:py K h):Ct Tryz.prog lp #[] h fun v h'=>∃ r,v = aA r∧K r h':=au [] Tryz.func218 c c c fun _=>M<|O c<|M<|p (bc c<|mg 1 2)<|aa<|Z H xt fun r5 _ H1=>aa<|Z H1 en_177 fun r6 _ H2=>O c<|M<|J c<|aa<|Z H2 en_217 fun r9 _ H3=>J c<|p (aj c c)<|p (aj c c)<|p (ar c)<|O c<|ak<|M<|J c<|aa<|aR H3 (gi c c) c fun v13 _ H4=>J c<|V c c (aH _) (fun g5=>wv<|ag c)<|V c c (aH _) (fun g6=>wv<|cn Tryz.underlying246<|aD c g6)<|p (dh c c)<|ad<|av c H4 (fun k7 H8=>M<|O c<|ai<|Y ⟨false,c,H8⟩) fun k7 H8=>an<|M<|J c<|J c<|V c c (ax _) (fun g9=>wv<|ag c)<|bO H8 (fun k11 H12=>bD H12 fun q21 e13 H14=>F (D k11)<|I (aI<|aL (aD c k11)<|ao e13)<|F (D k11)<|I (ae fld_248_1 c)<|F (D k11)<|aU H14 aY c (fun _=>c) c fun x23 H15=>F (D k11)<|I (bL c c)<|p (aQ c k11 c)<|J c<|V c c (ax _) (fun g16=>wv<|ag<|aL c<|ao e13)<|V c c (ax _) (fun g17=>wv<|aI<|aD c g17)<|V c c (ax _) (fun g18=>wv<|ae fld_248_2<|aD c g18)<|bO H15 (fun k20 H21=>F (D k20)<|gu H21 ff (aD c k20) (fun _=>c) c fun x30 H22=>F (D k20)<|I (bc c<|mg 1 2)<|F (D k20)<|I (v_eqA eqg_34 (eqr_34 9998 _ _) c c)<|p (aQ c k20 c)<|J c<|V c c (ax _) (fun g23=>wv<|ag<|aL c<|ao e13)<|V c c (ax _) (fun g24=>wv<|aI<|aD c g24)<|V c c (ax _) (fun g25=>wv<|ae vR<|aD c g25)<|bO H22 (fun k27 H28=>F (D k27)<|aU H28 oB (aD c k27) (fun _=>c) c fun x38 H29=>F (D k27)<|I (bL c c)<|p (aQ c k27 c)<|J c<|V c c (ax _) (fun g30=>wv<|ag c)<|bO H29 (fun k32 H33=>F (D k32)<|fX H33 en_201 (aP (aD c k32) bS) c fun r43 _ H34=>F (D k32)<|I (bL c c)<|p (aQ c k32 c)<|J c<|V c c (ax _) (fun g35=>wv<|ag c)<|bO H34 (fun k37 H38=>F (D k37)<|fX H38 en_224 (aP (aD c k37) bS) c fun r48 _ H39=>F (D k37)<|I (bL c c)<|p (aQ c k37 c)<|J c<|V c c (ax _) (fun g40=>wv<|ag c)<|bO H39 (fun k42 H43=>F (D k42)<|Z H43 xt fun r53 _ H44=>F (D k42)<|fX H44 en_141 (aP (aD c k42)<|aP c bS) c fun r54 _ H45=>p (aQ c k42 c)<|J c<|V c c (ax _) (fun g46=>wv<|ag c)<|bO H45 (fun k48 H49=>F (D k48)<|Z H49 xt fun r58 _ H50=>F (D k48)<|fX H50 en_141 (aP (aD c k48)<|aP c bS) c fun r59 _ H51=>F (D k48)<|I (cq c)<|p (aQ c k48 c)<|J c<|V c c (ax _) (fun g52=>wv<|ag c)<|bO H51 (fun k54 H55=>F (D k54)<|fW H55 (fV (vs:=[]) (aD c k54) c) c fun v64 _ H56=>F (D k54)<|aR H56 (gi c c) c fun v65 _ H57=>p (aQ c k54 c)<|J c<|bO H57 (fun k59 H60=>F (D k59)<|Z H60 xt fun r68 _ H61=>F (D k59)<|aR H61 (gi c c) c fun v69 _ H62=>p (aQ c k59 c)<|O c<|ai<|Y ⟨v69,c,H62⟩) fun k59 H60=>W (aS k59)<|W (aS k59)<|p (ap c k59 c)<|O c<|ai<|Y ⟨false,c,H60⟩) fun k54 H55=>W (aS k54)<|W (aS k54)<|p (ap c k54 c)<|J c<|W c<|W c<|p (ap c c c)<|O c<|ai<|Y ⟨false,c,H55⟩) fun k48 H49=>W (aS k48)<|W (aS k48)<|W (aS k48)<|p (ap c k48 c)<|J c<|W c<|W c<|W c<|p (ap c c c)<|J c<|W c<|W c<|p (ap c c c)<|O c<|ai<|Y ⟨false,c,H49⟩) fun k42 H43=>W (aS k42)<|W (aS k42)<|p (ap c k42 c)<|J c<|W c<|W c<|W c<|W c<|p (ap c c c)<|J c<|W c<|W c<|W c<|p (ap c c c)<|J c<|W c<|W c<|p (ap c c c)<|O c<|ai<|Y ⟨false,c,H43⟩) fun k37 H38=>W (aS k37)<|W (aS k37)<|p (ap c k37 c)<|J c<|W c<|W c<|W c<|p (ap c c c)<|J c<|W c<|W c<|W c<|W c<|p (ap c c c)<|J c<|W c<|W c<|W c<|p (ap c c c)<|J c<|W c<|W c<|p (ap c c c)<|O c<|ai<|Y ⟨false,c,H38⟩) fun k32 H33=>W (aS k32)<|W (aS k32)<|p (ap c k32 c)<|J c<|W c<|W c<|W c<|p (ap c c c)<|J c<|W c<|W c<|W c<|p (ap c c c)<|J c<|W c<|W c<|W c<|W c<|p (ap c c c)<|J c<|W c<|W c<|W c<|p (ap c c c)<|J c<|W c<|W c<|p (ap c c c)<|O c<|ai<|Y ⟨false,c,H33⟩) fun k27 H28=>W (aS k27)<|W (aS k27)<|p (ap c k27 c)<|J c<|W c<|W c<|W c<|p (ap c c c)<|J c<|W c<|W c<|W c<|p (ap c c c)<|J c<|W c<|W c<|W c<|p (ap c c c)<|J c<|W c<|W c<|W c<|W c<|p (ap c c c)<|J c<|W c<|W c<|W c<|p (ap c c c)<|J c<|W c<|W c<|p (ap c c c)<|O c<|ai<|Y ⟨false,c,H28⟩) fun k20 H21=>W (aS k20)<|W (aS k20)<|W (aS k20)<|p (ap c k20 c)<|J c<|W c<|W c<|W c<|W c<|W c<|p (ap c c c)<|J c<|W c<|W c<|W c<|p (ap c c c)<|J c<|W c<|W c<|W c<|p (ap c c c)<|J c<|W c<|W c<|W c<|p (ap c c c)<|J c<|W c<|W c<|W c<|W c<|p (ap c c c)<|J c<|W c<|W c<|W c<|p (ap c c c)<|J c<|W c<|W c<|p (ap c c c)<|O c<|ai<|Y ⟨false,c,H21⟩) fun k11 H12=>W (aS k11)<|W (aS k11)<|W (aS k11)<|W (aS k11)<|p (ap c k11 c)<|J c<|W c<|W c<|W c<|W c<|W c<|W c<|p (ap c c c)<|J c<|W c<|W c<|W c<|W c<|W c<|p (ap c c c)<|J c<|W c<|W c<|W c<|p (ap c c c)<|J c<|W c<|W c<|W c<|p (ap c c c)<|J c<|W c<|W c<|W c<|p (ap c c c)<|J c<|W c<|W c<|W c<|W c<|p (ap c c c)<|J c<|W c<|W c<|W c<|p (ap c c c)<|J c<|W c<|W c<|p (ap c c c)<|O c<|ai<|Y ⟨false,c,H12⟩
def pz (K:Bool→Hp→Prop):Hp→Prop:=cl Tryz.prog lp [] aA fun r1=>K r1
theorem wE {K:Bool→Hp→Prop} {h:Hp} (H:pz K h):Ct Tryz.prog lq #[] h fun v h'=>∃ r,v = aA r∧K r h':=au [] Tryz.func206 c c c fun _=>M<|O c<|M<|aa<|Z H en_218 fun r1 _ H1=>O c<|ai<|Y ⟨r1,c,H1⟩
end Go.Proofs.YtmggcfijlpldpaaGreatDoor
namespace Go.Proofs.YtmggcfijlpldpaaGreatDoor
open Go Mb
variable {ET:Nat} {EF:Nat × Nat}
abbrev s3_:ByteArray:=⟨#[51]⟩
theorem sp_small3:Sp Tryz.prog jh [.int .i64 3] dT [] (fun r=>pa_ (r = s3_) []):=by
  intro h st
  refine sO _ ?_
  unfold mo
  exact dU rfl (fx s3_ (fun K h=>by kernel_rfl) (aW rfl st))
theorem sp_FormatInt3:Sp Tryz.prog gx [.int .i64 3,.int .i64 10] dT [] (fun r=>pa_ (r = s3_) []):=by
  intro h st
  refine pU _ _ ?_
  unfold jK
  refine dU rfl (dU rfl (tP sp_small3 st fun r h' hr s2=>?_))
  exact aW hr s2
theorem sp_Itoa3':Sp Tryz.prog jv [.int .i64 3] dT [] (fun r=>pa_ (r = s3_) []):=by
  intro h st
  refine tO _ ?_
  unfold mN
  exact tP sp_FormatInt3 st fun r h' hr s2=>aW hr s2
theorem sp_Itoa3:Sp Tryz.prog th [.int .i64 3] dT [] (fun r=>pa_ (r = s3_) []):=by
  intro h st
  refine sim_strconv_Itoa _ ?_
  unfold sh_strconv_Itoa
  exact tP sp_Itoa3' st fun r h' hr s2=>aW hr s2
abbrev t3_:ByteArray:=⟨#[116,114,97,112,32,51]⟩
theorem sp_Error1 (b:Nat) (t:bY) (hc:t.fCode = 3) (ht:t.fErr = Value.nilIface):Sp Tryz.prog iQ [pv (some (b,0))] dT [trB b t] (fun r=>pa_ (r = t3_) [trB b t]):=by
  intro h st
  refine ru _ ?_
  unfold ng
  refine dB rfl (cy ?_)
  refine bk t.fCode st (i:=0) rfl rfl rfl ?_
  rw [hc]
  refine tP sp_Itoa3 st fun r h' hr s2=>?_
  subst hr
  refine fx t3_ (fun K h=>by kernel_rfl) ?_
  refine bk t.fErr s2 (i:=0) rfl rfl rfl ?_
  rw [ht]
  refine fx false (fun K h=>by kernel_rfl) (dB rfl ?_)
  exact aW rfl s2
theorem sp_Error2 (b e:Nat) (t u:bY) (hc:t.fCode = 3) (ht:t.fErr = dv e) (hd:u.fCode = 3) (hu:u.fErr = Value.nilIface):Sp Tryz.prog iQ [pv (some (b,0))] dT [trB b t,trB e u] (fun r=>pa_ (r = oe) [trB b t,trB e u]):=by
  intro h st
  refine ru _ ?_
  unfold ng
  refine dB rfl (cy ?_)
  refine bk t.fCode st (i:=0) rfl rfl rfl ?_
  rw [hc]
  refine tP sp_Itoa3 st fun r h' hr s2=>?_
  subst hr
  refine fx t3_ (fun K h=>by kernel_rfl) ?_
  refine bk t.fErr s2 (i:=0) rfl rfl rfl ?_
  rw [ht]
  refine fx true (fun K h=>by kernel_rfl) (dU rfl ?_)
  refine bk t.fErr s2 (i:=0) rfl rfl rfl ?_
  rw [ht]
  refine cln_en (f:=iQ) (vs:=[pv (some (e,0))]) (fun K h=>by kernel_rfl) ?_
  refine bM (i:=1) (sp_Error1 e u hd hu) rfl s2 fun r h' hr s3=>?_
  subst hr
  refine fx ⟨#[58,32,116,114,97,112,32,51]⟩ (fun K h=>by kernel_rfl) ?_
  refine fx oe (fun K h=>by kernel_rfl) ?_
  exact aW rfl s3
theorem star_ne {b d:Nat} {T T':TypeId} {c c':List Value} {l:List As} {h:Hp} (s:aG (blk b T c::blk d T' c'::l) h):b ≠ d:=by
  obtain ⟨h1,h2,dj,e,a,h3,h4,dj2,e2,a2,_⟩:=s
  rintro rfl
  have h1b:h1 b = some _:=a
  have h3b:h3 b = some _:=a2
  rcases dj b with x | x
  · rw [h1b] at x; cases x
  · rw [e2,un_left h3b] at x; cases x
theorem sp_Trap_Is (b d:Nat) (t w:bY):Sp Tryz.prog tf [pv (some (b,0)),dv d] aA [trB b t,trB d w] (fun r=>pa_ (r = (t.fCode == w.fCode)) [trB b t,trB d w]):=by
  intro h st
  refine sim_trap_Trap_Is _ _ ?_
  unfold sh_trap_Trap_Is
  refine fx (some (d,0),true) (fun K h=>by kernel_rfl) (dU rfl (dU rfl (dU rfl (cy (cy ?_)))))
  refine bk t.fCode st (i:=0) rfl rfl rfl ?_
  refine bk w.fCode st (i:=1) rfl rfl rfl ?_
  exact aW rfl st
theorem sp_Unwrap (b:Nat) (t:bY):Sp Tryz.prog ni [pv (some (b,0))] encV [trB b t] (fun r=>pa_ (r = t.fErr) [trB b t]):=by
  intro h st
  refine sim_trap_Trap_Unwrap _ ?_
  unfold rv
  refine dB rfl (cy ?_)
  refine bk t.fErr st (i:=0) rfl rfl rfl ?_
  exact aW rfl st
theorem eq_traps {K:Bool→Hp→Prop} {a b n m:Nat} {t u:bY} {l:List As} {h:Hp} (s:aG (trB a t::trB b u::l) h) (k:K false h):hpv Tryz.prog (do eqGuard .eql 195 (.tmp n) (.tmp m) (dv a) (dv b); binOp .eql 195 (dv a) (dv b):Sem Value) aA K h:=by
  obtain ⟨g1,a1,sub1⟩:=dS (l:=trB a t::trB b u::l) (A:=trB a t) (i:=0) (by rfl) s
  obtain ⟨g2,a2,sub2⟩:=dS (l:=trB a t::trB b u::l) (A:=trB b u) (i:=1) (by rfl) s
  have q1:h a = some (.cells (bY.C t).toArray nC (0,0)):=sub1 _ _ a1
  have q2:h b = some (.cells (bY.C u).toArray nC (0,0)):=sub2 _ _ a2
  have hne:=star_ne s
  have e:(a == b) = false:=by simpa using hne
  constructor
  rw [y6,cR]
  refine x25 _ _ q1 q2 ?_
  rw [e]
  exact ⟨false,rfl,k⟩
theorem is_step {b d:Nat} {t w:bY} {l:List As} {h:Hp} {K:Bool→Hp→Prop} {Rec:Value→Hp→Prop} (st:aG (trB b t::trB d w::l) h)
    (h1:t.fCode = w.fCode→∀ h',aG (trB b t::trB d w::l) h'→K true h') (h0:t.fCode ≠ w.fCode→t.fErr = .nilIface→∀ h',aG (trB b t::trB d w::l) h'→K false h')
    (h2:t.fCode ≠ w.fCode→∀ e,t.fErr = dv e→∀ h',aG (trB b t::trB d w::l) h'→Rec (dv e) h') (hok:t.fErr = .nilIface∨∃ e,t.fErr = dv e):sj (dv d) true K Rec (dv b) h:=by
  unfold sj
  refine dU rfl (eq_traps st (dB rfl ?_))
  refine fx (dv b,true) (fun K h=>by kernel_rfl) (dU rfl ?_)
  refine cln_en (f:=tf) (vs:=[pv (some (b,0)),dv d]) (fun K h=>by kernel_rfl) ?_
  refine cO [] (rest:=l) (sp_Trap_Is b d t w) st rfl fun r h' s2=>?_
  obtain ⟨rfl,s3⟩:=bt.1 s2
  by_cases e:t.fCode = w.fCode
  · exact dU (by simpa using e) (h1 e _ s3)
  · refine dB (by simpa using e) ?_
    unfold sk
    refine fx (dv b,true) (fun K h=>by kernel_rfl) (dU rfl ?_)
    refine cln_en (f:=ni) (vs:=[pv (some (b,0))]) (fun K h=>by kernel_rfl) ?_
    refine bM (i:=0) (sp_Unwrap b t) rfl s3 fun r h' hr s4=>?_
    subst hr
    rcases hok with hn | ⟨x,hx⟩
    · rw [hn]
      refine fx true (en_00 _) (dU rfl (h0 e hn _ ?_))
      simpa using s4
    · rw [hx]
      refine fx false (en_0 x _) (dB rfl (h2 e x hx _ ?_))
      simpa using s4
theorem sp_is1 (b d:Nat) (t w:bY) (hc:t.fCode = w.fCode) (hok:t.fErr = .nilIface∨∃ e,t.fErr = dv e):Sp Tryz.prog nK [dv b,dv d,.bool true] aA [trB b t,trB d w] (fun r=>pa_ (r = true) [trB b t,trB d w]):=by
  intro h st
  refine sim_errors_is _ _ _ ?_
  unfold wL
  refine ⟨fun s h=>s = dv b∧aG [trB b t,trB d w] h,fun _ _=>0,⟨rfl,st⟩,?_⟩
  rintro _ h1 ⟨rfl,s1⟩
  exact is_step s1 (fun _ h' s2=>aW rfl s2) (fun e=>absurd hc e) (fun e=>absurd hc e) hok
theorem sp_is2 (b e d:Nat) (t u w:bY) (ht:t.fErr = dv e) (hu:u.fErr = .nilIface) (hc:t.fCode ≠ w.fCode) (hd:u.fCode ≠ w.fCode) :
    Sp Tryz.prog nK [dv b,dv d,.bool true] aA [trB b t,trB e u,trB d w] (fun r=>pa_ (r = false) [trB b t,trB e u,trB d w]):=by
  intro h st
  refine sim_errors_is _ _ _ ?_
  unfold wL
  refine ⟨fun s h=>(s = dv b∨s = dv e)∧aG [trB b t,trB e u,trB d w] h,fun s _=>match s with | .iface _ (.pointer (some p))=>if p.block = b then 1 else 0 | _=>0,⟨.inl rfl,st⟩,?_⟩
  have hne:e ≠ b:=fun h=>(star_ne st) h.symm
  rintro _ h1 ⟨rfl | rfl,s1⟩
  · refine is_step (l:=[trB e u]) (bb [0,1] s1 rfl) (fun x=>absurd x hc) (fun _ x=>by rw [ht] at x; cases x) (fun _ x hx h' s2=>?_) (.inr ⟨e,ht⟩)
    rw [ht] at hx
    rw [← hx]
    exact ⟨⟨.inr rfl,bb [0,1] s2 rfl⟩,by show (if e = b then 1 else 0) < (if b = b then 1 else 0); rw [if_pos rfl,if_neg hne]; exact Nat.one_pos⟩
  · refine is_step (l:=[trB b t]) (bb [1,1] s1 rfl) (fun x=>absurd x hd) (fun _ _ h' s2=>aW rfl (bb [2,0] s2 rfl)) (fun _ x hx=>by rw [hu] at hx; cases hx) (.inl hu)
theorem sp_Is1 (b d:Nat) (t w:bY) (hc:t.fCode = w.fCode) (hok:t.fErr = .nilIface∨∃ e,t.fErr = dv e):Sp Tryz.prog nL [dv b,dv d] aA [trB b t,trB d w] (fun r=>pa_ (r = true) [trB b t,trB d w]):=by
  intro h st
  refine sim_errors_Is _ _ ?_
  unfold wM
  refine fx false (en_0 b _) (dU rfl (fx false (en_0 d _) (dB rfl ?_)))
  refine tF (rtV bf) (fun K h=>x7 d K h) ?_
  refine tF true (fun K h=>x13 K h) ?_
  refine cO [] (rest:=[]) (sp_is1 b d t w hc hok) st rfl fun r h' s2=>?_
  obtain ⟨rfl,s3⟩:=bt.1 s2
  exact aW rfl s3
theorem sp_Is2 (b e d:Nat) (t u w:bY) (ht:t.fErr = dv e) (hu:u.fErr = .nilIface) (hc:t.fCode ≠ w.fCode) (hd:u.fCode ≠ w.fCode) :
    Sp Tryz.prog nL [dv b,dv d] aA [trB b t,trB e u,trB d w] (fun r=>pa_ (r = false) [trB b t,trB e u,trB d w]):=by
  intro h st
  refine sim_errors_Is _ _ ?_
  unfold wM
  refine fx false (en_0 b _) (dU rfl (fx false (en_0 d _) (dB rfl ?_)))
  refine tF (rtV bf) (fun K h=>x7 d K h) ?_
  refine tF true (fun K h=>x13 K h) ?_
  refine cO [] (rest:=[]) (sp_is2 b e d t u w ht hu hc hd) st rfl fun r h' s2=>?_
  obtain ⟨rfl,s3⟩:=bt.1 s2
  exact aW rfl s3
theorem uC {α:Type} {A:α→As} {l:List As} {h:Hp} (s:aG (ex A::l) h):∃ x,aG (A x::l) h:=by
  obtain ⟨h1,h2,d,e,⟨x,a⟩,s2⟩:=s
  exact ⟨x,h1,h2,d,e,a,s2⟩
abbrev tr3:bY:=⟨3,-1,⟨0,0,0,0,0⟩,.nilIface⟩
abbrev tr4:bY:=⟨4,-1,⟨0,0,0,0,0⟩,.nilIface⟩
abbrev tr32 (e:Nat):bY:=⟨3,2,⟨1,2,0,0,0⟩,dv e⟩
theorem sp_begun1:Sp Tryz.prog lp [] aA [(etB ET EF)] (fun r=>pa_ (r = true) [(etB ET EF)]):=by
  intro h st
  refine wD ?_
  unfold py
  refine cO [] (rest:=[(etB ET EF)]) (sp_Of 3 (by decide)) st rfl fun r h1 s1=>?_
  obtain ⟨e,x1⟩:=uC s1
  obtain ⟨rfl,y1⟩:=bt.1 x1
  refine cO [1,0] (rest:=[]) (sp_In 2 ⟨1,2,0,0,0⟩ e tr3) y1 rfl fun r h2 s2=>?_
  obtain ⟨b,x2⟩:=uC s2
  obtain ⟨rfl,y2⟩:=bt.1 x2
  refine bM (i:=1) (sp_First b) rfl y2 fun r h3 hr s3=>?_
  subst hr
  refine fx false (en_0 b _) (dB rfl (dU rfl (cy ?_)))
  refine bk 2 s3 (i:=0) rfl rfl rfl (dU rfl ?_)
  refine ld_s ⟨1,2,0,0,0⟩ s3 (i:=0) rfl (fun j v hj=>?_) (dU rfl ?_)
  · rcases j with _ | _ | _ | _ | _ | j <;> first | exact hj | (simp [ah.C] at hj)
  refine bk 3 s3 (i:=0) rfl rfl rfl (dU rfl ?_)
  refine cO [1,0] (rest:=[_]) (sp_Code b (tr32 e)) s3 rfl fun r h4 s4=>?_
  obtain ⟨rfl,y4⟩:=bt.1 s4
  refine dU rfl ?_
  refine cO [] (rest:=[]) (sp_Depth2 b e (tr32 e) tr3 rfl rfl) y4 rfl fun r h5 s5=>?_
  obtain ⟨rfl,y5⟩:=bt.1 s5
  refine dU rfl ?_
  refine cO [] (rest:=[_,_,_]) (sp_Of 3 (by decide)) y5 rfl fun r h6 s6=>?_
  obtain ⟨d,x6⟩:=uC s6
  obtain ⟨rfl,y6⟩:=bt.1 x6
  refine cO [2,0] (rest:=[_,_]) (sp_Is1 b d (tr32 e) tr3 rfl (.inr ⟨e,rfl⟩)) y6 rfl fun r h7 s7=>?_
  obtain ⟨rfl,y7⟩:=bt.1 s7
  refine dU rfl ?_
  refine cO [] (rest:=[_,_,_,_]) (sp_Of 4 (by decide)) y7 rfl fun r h8 s8=>?_
  obtain ⟨f,x8⟩:=uC s8
  obtain ⟨rfl,y8⟩:=bt.1 x8
  refine cO [1,3,0] (rest:=[_,_]) (sp_Is2 b e f (tr32 e) tr3 tr4 rfl rfl (show (3:Int) ≠ 4 by decide) (show (3:Int) ≠ 4 by decide)) y8 rfl fun r h9 s9=>?_
  obtain ⟨rfl,y9⟩:=bt.1 s9
  refine dU rfl ?_
  refine cln_en (f:=iQ) (vs:=[pv (some (b,0))]) (fun K h=>by kernel_rfl) ?_
  refine cO [] (rest:=[_,_,_]) (sp_Error2 b e (tr32 e) tr3 rfl rfl rfl rfl) y9 rfl fun r h10 s10=>?_
  obtain ⟨rfl,y10⟩:=bt.1 s10
  refine fx true (fun K h=>by kernel_rfl) (dU rfl ?_)
  refine tP sp_Of0 y10 fun r h11 hr s11=>?_
  subst hr
  refine fx true (en_00 _) ?_
  exact aW rfl (cc (l:=[_,_,_,_]) s11)
end Go.Proofs.YtmggcfijlpldpaaGreatDoor
namespace Go.Proofs.YtmggcfijlpldpaaGreatDoor
open Go Mb
set_option linter.unusedVariables false
def sh_cell_New (a0:Int) (K:Ptr→Hp→Prop):Hp→Prop:=nw qy (nW.C (⟨a0,0⟩:nW)) fun b5=>K (some (b5,0))
theorem sim_cell_New (a0:Int) {K:Ptr→Hp→Prop} {h:Hp} (H:sh_cell_New a0 K h):Ct Tryz.prog tn #[(.int .u64 a0)] h fun v h'=>∃ r,v = oY r∧K r h':=au [(.int .u64 a0)] Tryz.func202 c c c fun _=>M<|O c<|M<|J c<|p (bc c<|build_284_0 a0)<|aa<|gZ c c c H fun b5 _ H1=>O c<|ai<|Y ⟨some (b5,0),c,H1⟩
def sh_cell_Cell_Up (a0:Ptr) (a1:Int) (K:(Int × Bool)→Hp→Prop):Hp→Prop:=br a0.isNone ( K (0,false)) ( nn a0 fun q9=>ld (q9.1,q9.2 + 1) (cI .i64) fun x11=>st (q9.1,q9.2 + 1) [.int .i64 (IntKind.i64.wrap (x11 + 1))]<|ld (q9.1,q9.2 + 0) (cI .u64) fun x18=>br (decide (x18 ≥ a1)) ( ld (q9.1,q9.2 + 0) (cI .u64) fun x24=>K (x24,false)) ( ld (q9.1,q9.2 + 0) (cI .u64) fun x28=>st (q9.1,q9.2 + 0) [.int .u64 (IntKind.u64.wrap (x28 + 1))]<|ld (q9.1,q9.2 + 0) (cI .u64) fun x35=>K (x35,true)))
theorem sim_cell_Cell_Up (a0:Ptr) (a1:Int) {K:(Int × Bool)→Hp→Prop} {h:Hp} (H:sh_cell_Cell_Up a0 a1 K h):Ct Tryz.prog oP #[(pv a0),(.int .u64 a1)] h fun v h'=>∃ r,v = bJ r∧K r h':=au [(pv a0),(.int .u64 a1)] Tryz.func204 c c c fun _=>M<|p (ar c)<|O c<|ak<|M<|J c<|p (cn Tryz.underlying264 c)<|ad<|av c H (fun k1 H2=>M<|p (ar c)<|O c<|ai<|bw (bR c (bZ c)<|bZ c) ⟨(0,false),c,H2⟩) fun k1 H2=>an<|M<|J c<|bD H2 fun q9 e3 H4=>p (aI<|aL c<|ao e3)<|p (ae sC c)<|aa<|aU H4 aY c (fun _=>c) c fun x11 H5=>p (bq c c)<|p (aI<|aL c<|ao e3)<|p (ae sC c)<|aa<|dp pH c c c c c H5 fun _ H6=>ad<|ak<|M<|J (aL c<|ao e3)<|p (aI c)<|p (ae nQ c)<|aa<|aU H6 ct c (fun _=>c) c fun x18 H7=>J c<|p (jk c c)<|ad<|av c H7 (fun k8 H9=>M<|J (aL c<|ao e3)<|p (aI c)<|p (ae nQ c)<|aa<|aU H9 ct c (fun _=>c) c fun x24 H10=>p (ar c)<|O c<|ai<|bw (bR c (bZ c)<|bZ c) ⟨(x24,false),c,H10⟩) fun k8 H9=>an<|M<|J (aL c<|ao e3)<|p (aI c)<|p (ae nQ c)<|aa<|aU H9 ct c (fun _=>c) c fun x28 H11=>p (bq c c)<|p (aI c)<|p (ae nQ c)<|aa<|dp inf_22 c c c c c H11 fun _ H12=>ad<|M<|J (aL c<|ao e3)<|p (aI c)<|p (ae nQ c)<|aa<|aU H12 ct c (fun _=>c) c fun x35 H13=>p (ar c)<|O c<|ai<|bw (bR c (bZ c)<|bZ c) ⟨(x35,true),c,H13⟩
def um (a0:Ptr) (K:Int→Hp→Prop):Hp→Prop:=br a0.isNone ( K 0) ( nn a0 fun q6=>ld (q6.1,q6.2 + 1) (cI .i64) fun x8=>st (q6.1,q6.2 + 1) [.int .i64 (IntKind.i64.wrap (x8 + 1))]<|ld (q6.1,q6.2 + 0) (cI .u64) fun x15=>K x15)
theorem sim_cell_Cell_Load (a0:Ptr) {K:Int→Hp→Prop} {h:Hp} (H:um a0 K h):Ct Tryz.prog lX #[(pv a0)] h fun v h'=>∃ r,v = gJ r∧K r h':=au [(pv a0)] Tryz.func219 c c c fun _=>M<|O c<|ak<|M<|J c<|p (cn Tryz.underlying264 c)<|ad<|av c H (fun k1 H2=>M<|O c<|ai<|Y ⟨0,c,H2⟩) fun k1 H2=>an<|M<|J c<|bD H2 fun q6 e3 H4=>p (aI<|aL c<|ao e3)<|p (ae sC c)<|aa<|aU H4 aY c (fun _=>c) c fun x8 H5=>p (bq c c)<|p (aI<|aL c<|ao e3)<|p (ae sC c)<|aa<|dp pH c c c c c H5 fun _ H6=>ad<|M<|J (aL c<|ao e3)<|p (aI c)<|p (ae nQ c)<|aa<|aU H6 ct c (fun _=>c) c fun x15 H7=>O c<|ai<|Y ⟨x15,c,H7⟩
def vz (a0:Ptr) (a1:Int) (a2:Int) (K:Bool→Hp→Prop):Hp→Prop:=br a0.isNone ( K false) ( nn a0 fun q10=>ld (q10.1,q10.2 + 1) (cI .i64) fun x12=>st (q10.1,q10.2 + 1) [.int .i64 (IntKind.i64.wrap (x12 + 1))]<|ld (q10.1,q10.2 + 0) (cI .u64) fun x19=>br (x19 != a1) ( K false) ( st (q10.1,q10.2 + 0) [.int .u64 a2]<|K true))
theorem sim_cell_Cell_Cas (a0:Ptr) (a1:Int) (a2:Int) {K:Bool→Hp→Prop} {h:Hp} (H:vz a0 a1 a2 K h):Ct Tryz.prog rl #[(pv a0),(.int .u64 a1),(.int .u64 a2)] h fun v h'=>∃ r,v = aA r∧K r h':=au [(pv a0),(.int .u64 a1),(.int .u64 a2)] Tryz.func220 c c c fun _=>M<|O c<|ak<|M<|J c<|p (cn Tryz.underlying264 c)<|ad<|av c H (fun k1 H2=>M<|O c<|ai<|Y ⟨false,c,H2⟩) fun k1 H2=>an<|M<|J c<|bD H2 fun q10 e3 H4=>p (aI<|aL c<|ao e3)<|p (ae sC c)<|aa<|aU H4 aY c (fun _=>c) c fun x12 H5=>p (bq c c)<|p (aI<|aL c<|ao e3)<|p (ae sC c)<|aa<|dp pH c c c c c H5 fun _ H6=>ad<|ak<|M<|J (aL c<|ao e3)<|p (aI c)<|p (ae nQ c)<|aa<|aU H6 ct c (fun _=>c) c fun x19 H7=>J c<|p (pb c c)<|ad<|av c H7 (fun k8 H9=>M<|O c<|ai<|Y ⟨false,c,H9⟩) fun k8 H9=>an<|M<|J (aL c<|ao e3)<|J c<|p (aI c)<|p (ae nQ c)<|aa<|dp inf_22 c c c c c H9 fun _ H10=>ad<|M<|O c<|ai<|Y ⟨true,c,H10⟩
end Go.Proofs.YtmggcfijlpldpaaGreatDoor
namespace Go.Proofs.YtmggcfijlpldpaaGreatDoor
open Go Mb
set_option linter.unusedVariables false
def sh_ticket_New (K:Ptr→Hp→Prop):Hp→Prop:=cl Tryz.prog tn [(.int .u64 0)] oY fun r1=>cl Tryz.prog tn [(.int .u64 0)] oY fun r2=>nw mJ (kv.C (⟨r1,r2⟩:kv)) fun b4=>K (some (b4,0))
theorem sim_ticket_New {K:Ptr→Hp→Prop} {h:Hp} (H:sh_ticket_New K h):Ct Tryz.prog wU #[] h fun v h'=>∃ r,v = tL r∧K r h':=au [] Tryz.func203 c c c fun _=>M<|O c<|M<|aa<|Z H en_202 fun r1 _ H1=>aa<|Z H1 en_202 fun r2 _ H2=>p (bc c<|build_286_0_1 r1 r2)<|aa<|gZ c c c H2 fun b4 _ H3=>O c<|ai<|Y ⟨some (b4,0),c,H3⟩
def rz (a0:Ptr) (K:Int→Hp→Prop):Hp→Prop:=br a0.isNone ( K 0) ( nn a0 fun q9=>ld (q9.1,q9.2 + 0) cP fun x11=>cl Tryz.prog oP [(pv x11),(.int .u64 18446744073709551615)] bJ fun r12=>K (IntKind.u64.wrap (r12.1 - 1)))
theorem sim_ticket_Lock_Draw (a0:Ptr) {K:Int→Hp→Prop} {h:Hp} (H:rz a0 K h):Ct Tryz.prog nk #[(pv a0)] h fun v h'=>∃ r,v = gJ r∧K r h':=au [(pv a0)] Tryz.func205 c c c fun _=>M<|O c<|ak<|M<|J c<|p (cn Tryz.underlying266 c)<|ad<|av c H (fun k1 H2=>M<|O c<|ai<|Y ⟨0,c,H2⟩) fun k1 H2=>an<|M<|J c<|bD H2 fun q9 e3 H4=>p (aI<|aL c<|ao e3)<|p (ae fld_286_0 c)<|aa<|aU H4 sc_264 c (fun _=>c) c fun x11 H5=>aa<|Z H5 en_204 fun r12 _ H6=>J c<|p (aj c c)<|p (aj c c)<|p (ar c)<|O c<|M<|J c<|p (v_sub c c)<|O c<|ai<|Y ⟨IntKind.u64.wrap (r12.1 - 1),c,H6⟩
def rx (a0:Ptr) (a1:Int) (K:Bool→Hp→Prop):Hp→Prop:=br (!a0.isNone) ( nn a0 fun q9=>ld (q9.1,q9.2 + 1) cP fun x11=>cl Tryz.prog lX [(pv x11)] gJ fun r12=>br (r12 == a1) ( ld (q9.1,q9.2 + 0) cP fun x21=>cl Tryz.prog lX [(pv x21)] gJ fun r22=>K (decide (a1 < r22))) ( K false)) ( K false)
theorem sim_ticket_Lock_Turn (a0:Ptr) (a1:Int) {K:Bool→Hp→Prop} {h:Hp} (H:rx a0 a1 K h):Ct Tryz.prog jR #[(pv a0),(.int .u64 a1)] h fun v h'=>∃ r,v = aA r∧K r h':=au [(pv a0),(.int .u64 a1)] Tryz.func207 c c c fun _=>M<|O c<|M<|J c<|p (v_pneT Tryz.underlying266 c)<|J c<|V c c (ax _) (fun g1=>wv<|ag c)<|bO H (fun k3 H4=>bD H4 fun q9 e5 H6=>F (D k3)<|I (aI<|aL (aD c k3)<|ao e5)<|F (D k3)<|I (ae fld_286_1 c)<|F (D k3)<|aU H6 sc_264 c (fun _=>c) c fun x11 H7=>F (D k3)<|Z H7 en_219 fun r12 _ H8=>F (D k3)<|I (ag c)<|F (D k3)<|I (bL c c)<|p (aQ c k3 c)<|J c<|V c c (ax _) (fun g9=>wv<|ag c)<|V c c (ax _) (fun g10=>wv<|ag<|aL c<|ao e5)<|V c c (ax _) (fun g11=>wv<|aI<|aD c g11)<|V c c (ax _) (fun g12=>wv<|ae fld_286_0<|aD c g12)<|bO H8 (fun k14 H15=>F (D k14)<|aU H15 sc_264 (aD c k14) (fun _=>c) c fun x21 H16=>F (D k14)<|Z H16 en_219 fun r22 _ H17=>F (D k14)<|I (cu (aD c k14) c)<|p (aQ c k14 c)<|O c<|ai<|Y ⟨decide (a1 < r22),c,H17⟩) fun k14 H15=>W (aS k14)<|W (aS k14)<|W (aS k14)<|p (ap c k14 c)<|O c<|ai<|Y ⟨false,c,H15⟩) fun k3 H4=>W (aS k3)<|W (aS k3)<|W (aS k3)<|W (aS k3)<|W (aS k3)<|W (aS k3)<|p (ap c k3 c)<|J c<|W c<|W c<|W c<|W c<|W c<|W c<|W c<|p (ap c c c)<|O c<|ai<|Y ⟨false,c,H4⟩
def ry (a0:Ptr) (a1:Int) (K:Bool→Hp→Prop):Hp→Prop:=cl Tryz.prog jR [(pv a0),(.int .u64 a1)] aA fun r7=>br r7 ( nn a0 fun q10=>ld (q10.1,q10.2 + 1) cP fun x12=>cl Tryz.prog rl [(pv x12),(.int .u64 a1),(.int .u64 (IntKind.u64.wrap (a1 + 1)))] aA fun r16=>K r16) ( K false)
theorem sim_ticket_Lock_Pass (a0:Ptr) (a1:Int) {K:Bool→Hp→Prop} {h:Hp} (H:ry a0 a1 K h):Ct Tryz.prog nj #[(pv a0),(.int .u64 a1)] h fun v h'=>∃ r,v = aA r∧K r h':=au [(pv a0),(.int .u64 a1)] Tryz.func208 c c c fun _=>M<|O c<|M<|J c<|J c<|aa<|Z H en_207 fun r7 _ H1=>J c<|V c c (ax _) (fun g2=>wv<|ag c)<|bO H1 (fun k4 H5=>bD H5 fun q10 e6 H7=>F (D k4)<|I (aI<|aL (aD c k4)<|ao e6)<|F (D k4)<|I (ae fld_286_1 c)<|F (D k4)<|aU H7 sc_264 c (fun _=>c) c fun x12 H8=>F (D k4)<|I (ag c)<|F (D k4)<|I (ag c)<|F (D k4)<|I (bq c c)<|F (D k4)<|Z H8 en_220 fun r16 _ H9=>p (aQ c k4 c)<|O c<|ai<|Y ⟨r16,c,H9⟩) fun k4 H5=>W (aS k4)<|W (aS k4)<|W (aS k4)<|W (aS k4)<|W (aS k4)<|W (aS k4)<|W (aS k4)<|p (ap c k4 c)<|O c<|ai<|Y ⟨false,c,H5⟩
end Go.Proofs.YtmggcfijlpldpaaGreatDoor
namespace Go.Proofs.YtmggcfijlpldpaaGreatDoor
open Go Mb
def kF (x:Ptr) (c:Int × Int):As:=fun h=>∃ b:Nat,(x = some (b,0))∧aG [blk b qy [.int .u64 c.1,.int .i64 c.2]] h
theorem cell_op {x:Ptr} {c:Int × Int} {l:List As} {h:Hp} (s0:aG (kF x c::l) h):∃ b,x = some (b,0)∧aG (blk b qy [.int .u64 c.1,.int .i64 c.2]::l) h:=by
  obtain ⟨b,hx,st⟩:=op_ s0
  exact ⟨b,hx,st⟩
theorem cell_cl {b:Nat} {v n:Int} {l:List As} {h:Hp} (st:aG (blk b qy [.int .u64 v,.int .i64 n]::l) h):aG (kF (some (b,0)) (v,n)::l) h:=cl_ (m:=fun b=>[blk b qy [.int .u64 (v,n).1,.int .i64 (v,n).2]]) b rfl st
namespace Cell
def tick (c:Int × Int):Int × Int:=(c.1,IntKind.i64.wrap (c.2 + 1))
def cas (c:Int × Int) (o v:Int):Bool × Int × Int:=if c.1 = o then (true,v,(tick c).2) else (false,tick c)
def up (c:Int × Int) (m:Int):(Int × Bool) × Int × Int:=if c.1 ≥ m then ((c.1,false),tick c) else ((IntKind.u64.wrap (c.1 + 1),true),(IntKind.u64.wrap (c.1 + 1),(tick c).2))
end Cell
theorem sp_cell_New (v:Int):Sp Tryz.prog tn [.int .u64 v] oY [] (fun r=>aG [kF r (v,0)]):=by
  intro h st
  refine sim_cell_New _ ?_
  unfold sh_cell_New
  exact pf st fun b h' s1=>cell_cl s1
theorem sp_cell_Load (x:Ptr) (c:Int × Int):Sp Tryz.prog lX [pv x] gJ [kF x c] (fun r=>pa_ (r = c.1) [kF x (Cell.tick c)]):=by
  intro h s0
  obtain ⟨b,rfl,st⟩:=cell_op s0
  refine sim_cell_Cell_Load _ ?_
  unfold um
  refine dB rfl (cy ?_)
  refine bk c.2 st (i:=0) rfl rfl rfl ?_
  refine tN (i:=0) st rfl (Nat.le_refl _) fun h2 s2=>?_
  refine bk c.1 s2 (i:=0) rfl rfl rfl ?_
  exact aW rfl (cell_cl s2)
theorem sp_cell_Cas (x:Ptr) (c:Int × Int) (o v:Int):Sp Tryz.prog rl [pv x,.int .u64 o,.int .u64 v] aA [kF x c] (fun r=>pa_ (r = (Cell.cas c o v).1) [kF x (Cell.cas c o v).2]):=by
  intro h s0
  obtain ⟨b,rfl,st⟩:=cell_op s0
  refine sim_cell_Cell_Cas _ _ _ ?_
  unfold vz
  refine dB rfl (cy ?_)
  refine bk c.2 st (i:=0) rfl rfl rfl ?_
  refine tN (i:=0) st rfl (Nat.le_refl _) fun h2 s2=>?_
  refine bk c.1 s2 (i:=0) rfl rfl rfl ?_
  refine aX (fun k=>?_) (fun k=>?_)
  · have k':¬ c.1 = o:=by simpa using k
    have e:Cell.cas c o v = (false,Cell.tick c):=if_neg k'
    rw [e]
    exact aW rfl (cell_cl s2)
  · have k':c.1 = o:=by simpa using k
    have e:Cell.cas c o v = (true,v,(Cell.tick c).2):=if_pos k'
    rw [e]
    refine tN (i:=0) s2 rfl (show 0 + 0 + 1 ≤ 2 by decide) fun h3 s3=>?_
    exact aW rfl (cell_cl s3)
theorem sp_cell_Up (x:Ptr) (c:Int × Int) (m:Int):Sp Tryz.prog oP [pv x,.int .u64 m] bJ [kF x c] (fun r=>pa_ (r = (Cell.up c m).1) [kF x (Cell.up c m).2]):=by
  intro h s0
  obtain ⟨b,rfl,st⟩:=cell_op s0
  refine sim_cell_Cell_Up _ _ ?_
  unfold sh_cell_Cell_Up
  refine dB rfl (cy ?_)
  refine bk c.2 st (i:=0) rfl rfl rfl ?_
  refine tN (i:=0) st rfl (Nat.le_refl _) fun h2 s2=>?_
  refine bk c.1 s2 (i:=0) rfl rfl rfl ?_
  refine aX (fun k=>?_) (fun k=>?_)
  · have k':c.1 ≥ m:=by simpa using k
    have e:Cell.up c m = ((c.1,false),Cell.tick c):=if_pos k'
    rw [e]
    refine bk c.1 s2 (i:=0) rfl rfl rfl ?_
    exact aW rfl (cell_cl s2)
  · have k':¬ c.1 ≥ m:=by simpa using k
    have e:Cell.up c m = ((IntKind.u64.wrap (c.1 + 1),true),(IntKind.u64.wrap (c.1 + 1),(Cell.tick c).2)):=if_neg k'
    rw [e]
    refine bk c.1 s2 (i:=0) rfl rfl rfl ?_
    refine tN (i:=0) s2 rfl (show 0 + 0 + 1 ≤ 2 by decide) fun h3 s3=>?_
    refine bk (IntKind.u64.wrap (c.1 + 1)) s3 (i:=0) rfl rfl rfl ?_
    exact aW rfl (cell_cl s3)
def uR (x:Ptr) (k:(Int × Int) × (Int × Int)):As:=fun h=>∃ bs:Nat × Ptr × Ptr,(x = some (bs.1,0))∧aG [blk bs.1 mJ [pv bs.2.1,pv bs.2.2],kF bs.2.1 k.1,kF bs.2.2 k.2] h
theorem lock_op {x:Ptr} {k:(Int × Int) × (Int × Int)} {l:List As} {h:Hp} (s0:aG (uR x k::l) h):∃ b p q,x = some (b,0)∧aG (blk b mJ [pv p,pv q]::kF p k.1::kF q k.2::l) h:=by
  obtain ⟨⟨b,p,q⟩,hx,st⟩:=op_ s0
  exact ⟨b,p,q,hx,st⟩
theorem lock_cl {b:Nat} {p q:Ptr} {k1 k2:Int × Int} {l:List As} {h:Hp} (st:aG (blk b mJ [pv p,pv q]::kF p k1::kF q k2::l) h):aG (uR (some (b,0)) (k1,k2)::l) h :=
  cl_ (m:=fun bs:Nat × Ptr × Ptr=>[blk bs.1 mJ [pv bs.2.1,pv bs.2.2],kF bs.2.1 (k1,k2).1,kF bs.2.2 (k1,k2).2]) (b,p,q) rfl st
namespace Lock
abbrev S:=(Int × Int) × (Int × Int)
def draw (k:S):Int × S:=(IntKind.u64.wrap ((Cell.up k.1 18446744073709551615).1.1 - 1),((Cell.up k.1 18446744073709551615).2,k.2))
def turn (k:S) (t:Int):Bool × S:=if k.2.1 = t then (decide (t < k.1.1),(Cell.tick k.1,Cell.tick k.2)) else (false,(k.1,Cell.tick k.2))
def pass (k:S) (t:Int):Bool × S:=if (turn k t).1 then ((Cell.cas (turn k t).2.2 t (IntKind.u64.wrap (t + 1))).1,((turn k t).2.1,(Cell.cas (turn k t).2.2 t (IntKind.u64.wrap (t + 1))).2)) else (false,(turn k t).2)
end Lock
theorem sp_ticket_New:Sp Tryz.prog wU [] tL [] (fun r=>aG [uR r ((0,0),(0,0))]):=by
  intro h st
  refine sim_ticket_New ?_
  unfold sh_ticket_New
  refine cO [] (sp_cell_New 0) st rfl fun p h1 s1=>?_
  refine cO [] (sp_cell_New 0) (dC s1) rfl fun q h2 s2=>?_
  refine pf (dC s2) fun b h3 s3=>?_
  exact lock_cl (bb [0,1] s3 rfl)
theorem sp_ticket_Draw (x:Ptr) (k:Lock.S):Sp Tryz.prog nk [pv x] gJ [uR x k] (fun r=>pa_ (r = (Lock.draw k).1) [uR x (Lock.draw k).2]):=by
  intro h s0
  obtain ⟨b,p,q,rfl,st⟩:=lock_op s0
  refine sim_ticket_Lock_Draw _ ?_
  unfold rz
  refine dB rfl (cy ?_)
  refine bk p st (i:=0) rfl rfl rfl ?_
  refine cO [1] (sp_cell_Up p k.1 _) st rfl fun r h1 s1=>?_
  obtain ⟨hr,s2⟩:=bt.1 s1
  subst hr
  exact aW rfl (lock_cl (bb [1] s2 rfl))
theorem sp_ticket_Turn (x:Ptr) (k:Lock.S) (t:Int):Sp Tryz.prog jR [pv x,.int .u64 t] aA [uR x k] (fun r=>pa_ (r = (Lock.turn k t).1) [uR x (Lock.turn k t).2]):=by
  intro h s0
  obtain ⟨b,p,q,rfl,st⟩:=lock_op s0
  refine sim_ticket_Lock_Turn _ _ ?_
  unfold rx
  refine dU rfl (cy ?_)
  refine bk q st (i:=0) rfl rfl rfl ?_
  refine cO [2] (sp_cell_Load q k.2) st rfl fun r h1 s1=>?_
  obtain ⟨hr,s2⟩:=bt.1 s1
  subst hr
  refine aX (fun c=>?_) (fun c=>?_)
  · have c':k.2.1 = t:=by simpa using c
    have e:Lock.turn k t = (decide (t < k.1.1),(Cell.tick k.1,Cell.tick k.2)):=if_pos c'
    rw [e]
    refine bk p s2 (i:=1) rfl rfl rfl ?_
    refine cO [2] (sp_cell_Load p k.1) s2 rfl fun r h2 s3=>?_
    obtain ⟨hr,s4⟩:=bt.1 s3
    subst hr
    exact aW rfl (lock_cl (bb [2] s4 rfl))
  · have c':¬ k.2.1 = t:=by simpa using c
    have e:Lock.turn k t = (false,(k.1,Cell.tick k.2)):=if_neg c'
    rw [e]
    exact aW rfl (lock_cl (bb [1,1] s2 rfl))
theorem sp_ticket_Pass (x:Ptr) (k:Lock.S) (t:Int):Sp Tryz.prog nj [pv x,.int .u64 t] aA [uR x k] (fun r=>pa_ (r = (Lock.pass k t).1) [uR x (Lock.pass k t).2]):=by
  intro h s0
  refine sim_ticket_Lock_Pass _ _ ?_
  unfold ry
  refine cO [0] (sp_ticket_Turn x k t) s0 rfl fun r h1 s1=>?_
  obtain ⟨hr,s2⟩:=bt.1 s1
  subst hr
  refine aX (fun c=>?_) (fun c=>?_)
  · have e:Lock.pass k t = ((Cell.cas (Lock.turn k t).2.2 t (IntKind.u64.wrap (t + 1))).1,((Lock.turn k t).2.1,(Cell.cas (Lock.turn k t).2.2 t (IntKind.u64.wrap (t + 1))).2)):=if_pos c
    rw [e]
    obtain ⟨b,p,q,rfl,st⟩:=lock_op s2
    refine cy (bk q st (i:=0) rfl rfl rfl ?_)
    refine cO [2] (sp_cell_Cas q _ t _) st rfl fun r h2 s3=>?_
    obtain ⟨hr,s4⟩:=bt.1 s3
    subst hr
    exact aW rfl (lock_cl (bb [1,1] s4 rfl))
  · have e:Lock.pass k t = (false,(Lock.turn k t).2):=by unfold Lock.pass; rw [c]; rfl
    rw [e]
    exact aW rfl s2
end Go.Proofs.YtmggcfijlpldpaaGreatDoor
namespace Go.Proofs.YtmggcfijlpldpaaGreatDoor
open Go Mb
set_option linter.unusedVariables false
def pw (K:Bool→Hp→Prop):Hp→Prop:=cl Tryz.prog vJ [(.int .i64 2)] tM fun r24=>cl Tryz.prog lg [] ip fun r25=>cl Tryz.prog iE [] gC fun r26=>cl Tryz.prog tj [(.int .i64 3)] oX fun r27=>cl Tryz.prog tn [(.int .u64 5)] oY fun r28=>cl Tryz.prog wU [] tL fun r29=>cl Tryz.prog wV [(.int .i64 2)] sq fun r30=>br ((((((r24.isNone || r25.isNone) || r26.isNone) || r27.isNone) || r28.isNone) || r29.isNone) || r30.isNone) ( K false) ( cl Tryz.prog dZ [(pv r25),(.int .i64 1),(.agg (al.C (⟨1,2,3⟩:al)).toArray)] bg fun r59=>cl Tryz.prog oI [(pv r26),(.agg (am.C (⟨1,5,1,1⟩:am)).toArray)] aA fun r67=>cl Tryz.prog oH [(pv r26),(.int .i64 1),(.int .i64 5)] fE fun r70=>cl Tryz.prog mX [(pv r27),(.int .i64 0),(.int .u64 4)] eC fun r74=>cl Tryz.prog lR [(pv r27),(.int .i64 2)] bJ fun r77=>cl Tryz.prog oP [(pv r28),(.int .u64 9)] bJ fun r82=>cl Tryz.prog nk [(pv r29)] gJ fun r86=>cl Tryz.prog jt [(pv r30)] bK fun r89=>cl Tryz.prog lq [] aA fun r97=>br (((((((((((r97 && (r59 == 0)) && (fL (⟨1,2,3⟩:al)).2) && (((fL (⟨1,2,3⟩:al)).1) == 33059)) && r67) && r70.2) && (r70.1.fFrame == 1)) && (r74 == 2)) && (r77.1 == 4)) && r77.2) && (r82.1 == 6)) && (r86 == 0)) ( cl Tryz.prog jR [(pv r29),(.int .u64 0)] aA fun r141=>br r141 ( cl Tryz.prog nj [(pv r29),(.int .u64 0)] aA fun r145=>br ((r145 && (r89.1 == 0)) && r89.2) ( cl Tryz.prog fC [(pv r24),(.int .i64 1),(.int .i64 3),(.int .u64 9)] aA fun r156=>br ((r156 && (aB (⟨6,0,0,0,0⟩:ah)).2) && (((aB (⟨6,0,0,0,0⟩:ah)).1) == 6)) ( cl Tryz.prog gM [(.agg (ah.C (⟨6,8,0,1,0⟩:ah)).toArray),(.int .i64 2)] bg fun r167=>br (r167 == 2) ( cl Tryz.prog n_word_Args [(.int .i64 3)] eC fun r171=>br ((r171 == 4) && (aT 1 3)) ( cl Tryz.prog lN [(pv r25),(.int .i64 2)] cA fun r179=>br ((r179.len:Int) == 1) ( cl Tryz.prog pW [(pv r30)] gJ fun r185=>K (r185 == 2)) ( K false)) ( K false)) ( K false)) ( K false)) ( K false)) ( K false)) ( K false))
theorem wA {K:Bool→Hp→Prop} {h:Hp} (H:pw K h):Ct Tryz.prog ll #[] h fun v h'=>∃ r,v = aA r∧K r h':=au [] Tryz.func178 c c c fun _=>M<|O c<|M<|aa<|Z H en_93 fun r24 _ H1=>aa<|Z H1 en_96 fun r25 _ H2=>aa<|Z H2 en_51 fun r26 _ H3=>aa<|Z H3 en_49 fun r27 _ H4=>p (ar c)<|p (ar c)<|p (ar c)<|O c<|M<|aa<|Z H4 en_202 fun r28 _ H5=>aa<|Z H5 en_203 fun r29 _ H6=>aa<|Z H6 en_94 fun r30 _ H7=>p (ar c)<|p (ar c)<|O c<|ak<|M<|J c<|p (cn Tryz.underlying144 c)<|J c<|V c c (aH _) (fun g8=>wv<|ag c)<|V c c (aH _) (fun g9=>wv<|cn Tryz.underlying153<|aD c g9)<|p (dh c c)<|J c<|V c c (aH _) (fun g10=>wv<|ag c)<|V c c (aH _) (fun g11=>wv<|cn Tryz.underlying94<|aD c g11)<|p (dh c c)<|J c<|V c c (aH _) (fun g12=>wv<|ag c)<|V c c (aH _) (fun g13=>wv<|cn Tryz.underlying85<|aD c g13)<|p (dh c c)<|J c<|V c c (aH _) (fun g14=>wv<|ag c)<|V c c (aH _) (fun g15=>wv<|cn Tryz.underlying264<|aD c g15)<|p (dh c c)<|J c<|V c c (aH _) (fun g16=>wv<|ag c)<|V c c (aH _) (fun g17=>wv<|cn Tryz.underlying266<|aD c g17)<|p (dh c c)<|J c<|V c c (aH _) (fun g18=>wv<|ag c)<|V c c (aH _) (fun g19=>wv<|cn Tryz.underlying146<|aD c g19)<|p (dh c c)<|ad<|av c H7 (fun k20 H21=>M<|O c<|ai<|Y ⟨false,c,H21⟩) fun k20 H21=>an<|M<|J c<|p (bc c<|na 1 2 3)<|aa<|Z H21 en_100 fun r59 _ H22=>O c<|M<|p (bc c<|na 1 2 3)<|aa<|cF (vs:=[(.agg (al.C (⟨1,2,3⟩:al)).toArray)]) (bu<|ct_pte_Put (⟨1,2,3⟩:al) _) en_149 c c<|J c<|p (aj c c)<|p (aj c c)<|p (ar c)<|O c<|M<|J c<|p (bc c<|wd 1 5 1 1)<|aa<|Z H22 en_154 fun r67 _ H23=>O c<|M<|J c<|aa<|Z H23 en_151 fun r70 _ H24=>J c<|p (aj c c)<|p (aj c c)<|aa<|aM (l:=am.C (⟨0,0,0,0⟩:am)) kK c c fun b12=>aa<|aO (k:=0) (vs:=am.C r70.1) fw c c c c c c c<|O c<|M<|J c<|aa<|Z H24 en_60 fun r74 _ H25=>O c<|M<|J c<|aa<|Z H25 en_123 fun r77 _ H26=>J c<|p (aj c c)<|p (aj c c)<|p (ar c)<|O c<|M<|J c<|aa<|Z H26 en_204 fun r82 _ H27=>J c<|p (aj c c)<|p (aj c c)<|p (ar c)<|O c<|M<|J c<|aa<|Z H27 en_205 fun r86 _ H28=>O c<|M<|J c<|aa<|Z H28 en_166 fun r89 _ H29=>J c<|p (aj c c)<|p (aj c c)<|p (ar c)<|O c<|M<|p (bc c<|build_34_0 6)<|aa<|cF (vs:=[(.agg (ah.C (⟨6,0,0,0,0⟩:ah)).toArray)]) (bu<|jX (⟨6,0,0,0,0⟩:ah) _) en_53 c c<|J c<|p (aj c c)<|p (aj c c)<|p (ar c)<|O c<|M<|aa<|Z H29 en_206 fun r97 _ H30=>J c<|V c c (ax _) (fun g31=>wv<|ag c)<|V c c (ax _) (fun g32=>wv<|bL (aD c g32) c)<|p (bT c c)<|J c<|V c c (ax _) (fun g33=>wv<|ag c)<|p (bT c c)<|J c<|V c c (ax _) (fun g34=>wv<|ag c)<|V c c (ax _) (fun g35=>wv<|bL (aD c g35) c)<|p (bT c c)<|J c<|V c c (ax _) (fun g36=>wv<|ag c)<|p (bT c c)<|J c<|V c c (ax _) (fun g37=>wv<|ag c)<|p (bT c c)<|J c<|V c c (ax _) (fun g38=>wv<|ae lz c)<|V c c (ax _) (fun g39=>cv<|ba (k:=0) aY (aD c g39) c c)<|V c c (ax _) (fun g40=>wv<|bL (aD c g40) c)<|p (bT c c)<|J c<|V c c (ax _) (fun g41=>wv<|ag c)<|V c c (ax _) (fun g42=>wv<|bL (aD c g42) c)<|p (bT c c)<|J c<|V c c (ax _) (fun g43=>wv<|ag c)<|V c c (ax _) (fun g44=>wv<|bL (aD c g44) c)<|p (bT c c)<|J c<|V c c (ax _) (fun g45=>wv<|ag c)<|p (bT c c)<|J c<|V c c (ax _) (fun g46=>wv<|ag c)<|V c c (ax _) (fun g47=>wv<|bL (aD c g47) c)<|p (bT c c)<|J c<|V c c (ax _) (fun g48=>wv<|ag c)<|V c c (ax _) (fun g49=>wv<|bL (aD c g49) c)<|p (bT c c)<|J c<|V c c (ax _) (fun g50=>wv<|ag c)<|bO H30 (fun k52 H53=>F (D k52)<|fX H53 en_207 (aP (aD c k52)<|aP c bS) c fun r141 _ H54=>p (aQ c k52 c)<|J c<|V c c (ax _) (fun g55=>wv<|ag c)<|bO H54 (fun k57 H58=>F (D k57)<|fX H58 en_208 (aP (aD c k57)<|aP c bS) c fun r145 _ H59=>p (aQ c k57 c)<|J c<|V c c (ax _) (fun g60=>wv<|ag c)<|V c c (ax _) (fun g61=>wv<|bL (aD c g61) c)<|p (bT c c)<|J c<|V c c (ax _) (fun g62=>wv<|ag c)<|p (bT c c)<|J c<|V c c (ax _) (fun g63=>wv<|ag c)<|bO H59 (fun k65 H66=>F (D k65)<|fX H66 en_157 (aP (aD c k65)<|aP c<|aP c<|aP c bS) c fun r156 _ H67=>p (aQ c k65 c)<|J c<|V c c (ax _) (fun g68=>wv<|ag c)<|p (bT c c)<|J c<|V c c (ax _) (fun g69=>wv<|ag c)<|V c c (ax _) (fun g70=>wv<|bL (aD c g70) c)<|p (bT c c)<|J c<|V c c (ax _) (fun g71=>wv<|bc c<|jE 6 8 0 1)<|bO H67 (fun k73 H74=>F (D k73)<|fX H74 en_98 (aP (aD c k73)<|aP c bS) c fun r167 _ H75=>F (D k73)<|I (bL c c)<|p (aQ c k73 c)<|J c<|bO H75 (fun k77 H78=>F (D k77)<|Z H78 en_209 fun r171 _ H79=>F (D k77)<|I (bL c c)<|p (aQ c k77 c)<|J c<|cY (vs:=[(.int .i64 1),(.int .i64 3)]) c c c (ax _) (fun g80=>bu<|db 1 3 _) mD (fun g80=>c) c<|p (bT c c)<|J c<|V c c (ax _) (fun g81=>wv<|ag c)<|bO H79 (fun k83 H84=>F (D k83)<|fX H84 en_171 (aP (aD c k83)<|aP c bS) c fun r179 _ H85=>F (D k83)<|I (dy c Tryz.underlying40 c)<|F (D k83)<|I (bL c c)<|p (aQ c k83 c)<|J c<|V c c (ax _) (fun g86=>wv<|ag c)<|bO H85 (fun k88 H89=>F (D k88)<|fX H89 en_210 (aP (aD c k88) bS) c fun r185 _ H90=>F (D k88)<|I (bL c c)<|p (aQ c k88 c)<|O c<|ai<|Y ⟨(r185 == 2),c,H90⟩) fun k88 H89=>W (aS k88)<|W (aS k88)<|p (ap c k88 c)<|O c<|ai<|Y ⟨false,c,H89⟩) fun k83 H84=>W (aS k83)<|W (aS k83)<|W (aS k83)<|p (ap c k83 c)<|J c<|W c<|W c<|W c<|p (ap c c c)<|O c<|ai<|Y ⟨false,c,H84⟩) fun k77 H78=>W (aS k77)<|W (aS k77)<|p (ap c k77 c)<|J c<|W c<|p (ap c c c)<|J c<|W c<|W c<|W c<|W c<|p (ap c c c)<|J c<|W c<|W c<|W c<|p (ap c c c)<|O c<|ai<|Y ⟨false,c,H78⟩) fun k73 H74=>W (aS k73)<|W (aS k73)<|p (ap c k73 c)<|J c<|W c<|W c<|p (ap c c c)<|J c<|W c<|p (ap c c c)<|J c<|W c<|W c<|W c<|W c<|p (ap c c c)<|J c<|W c<|W c<|W c<|p (ap c c c)<|O c<|ai<|Y ⟨false,c,H74⟩) fun k65 H66=>W (aS k65)<|p (ap c k65 c)<|J c<|W c<|p (ap c c c)<|J c<|W c<|W c<|p (ap c c c)<|J c<|W c<|W c<|W c<|p (ap c c c)<|J c<|W c<|W c<|p (ap c c c)<|J c<|W c<|p (ap c c c)<|J c<|W c<|W c<|W c<|W c<|p (ap c c c)<|J c<|W c<|W c<|W c<|p (ap c c c)<|O c<|ai<|Y ⟨false,c,H66⟩) fun k57 H58=>W (aS k57)<|p (ap c k57 c)<|J c<|W c<|W c<|p (ap c c c)<|J c<|W c<|p (ap c c c)<|J c<|W c<|W c<|p (ap c c c)<|J c<|W c<|p (ap c c c)<|J c<|W c<|W c<|p (ap c c c)<|J c<|W c<|W c<|W c<|p (ap c c c)<|J c<|W c<|W c<|p (ap c c c)<|J c<|W c<|p (ap c c c)<|J c<|W c<|W c<|W c<|W c<|p (ap c c c)<|J c<|W c<|W c<|W c<|p (ap c c c)<|O c<|ai<|Y ⟨false,c,H58⟩) fun k52 H53=>W (aS k52)<|p (ap c k52 c)<|J c<|W c<|W c<|p (ap c c c)<|J c<|W c<|W c<|p (ap c c c)<|J c<|W c<|p (ap c c c)<|J c<|W c<|W c<|p (ap c c c)<|J c<|W c<|p (ap c c c)<|J c<|W c<|W c<|p (ap c c c)<|J c<|W c<|W c<|W c<|p (ap c c c)<|J c<|W c<|W c<|p (ap c c c)<|J c<|W c<|p (ap c c c)<|J c<|W c<|W c<|W c<|W c<|p (ap c c c)<|J c<|W c<|W c<|W c<|p (ap c c c)<|O c<|ai<|Y ⟨false,c,H53⟩
def px (K:Bool→Hp→Prop):Hp→Prop:=cl Tryz.prog ll [] aA fun r1=>K r1
theorem wB {K:Bool→Hp→Prop} {h:Hp} (H:px K h):Ct Tryz.prog lm #[] h fun v h'=>∃ r,v = aA r∧K r h':=au [] Tryz.func138 c c c fun _=>M<|O c<|M<|aa<|Z H en_178 fun r1 _ H1=>O c<|ai<|Y ⟨r1,c,H1⟩
end Go.Proofs.YtmggcfijlpldpaaGreatDoor
namespace Go.Proofs.YtmggcfijlpldpaaGreatDoor
open Go Mb
variable {ET:Nat} {EF:Nat × Nat}
section
variable {l:List As} {h:Hp} {x:Ptr}
theorem mem_nn {fs:List (List Int)} (s:aG (ij x fs::l) h):x.isNone = false:=by obtain ⟨b,_,_,rfl,_⟩:=mem_op s; rfl
theorem nn_of {α:Type} {φ:α→Prop} {m:α→List As} (hx:∀ z,φ z→x.isNone = false) (s:aG ((fun h=>∃ z,φ z∧aG (m z) h)::l) h):x.isNone = false:=by
  obtain ⟨z,f,_⟩:=op_ s
  exact hx z f
theorem table_nn {ps:List Pte} (s:aG (cW x ps::l) h):x.isNone = false:=nn_of (fun _ e=>by rw [e.1]; rfl) s
theorem tlb_nn {t:List TL × Int} (s:aG (fe x t::l) h):x.isNone = false:=nn_of (fun _ e=>by rw [e.1]; rfl) s
theorem mail_nn {bs:List (List Int)} (s:aG (ji x bs::l) h):x.isNone = false:=nn_of (fun _ e=>by rw [e.1]; rfl) s
theorem cell_nn {c:Int × Int} (s:aG (kF x c::l) h):x.isNone = false:=nn_of (fun _ e=>by rw [e]; rfl) s
theorem lock_nn {k:(Int × Int) × (Int × Int)} (s:aG (uR x k::l) h):x.isNone = false:=nn_of (fun _ e=>by rw [e]; rfl) s
theorem pool_nn {p:List Int} (s:aG (fR x p::l) h):x.isNone = false:=nn_of (fun _ e=>by rw [e.1]; rfl) s
end
theorem sp_Begun1:Sp Tryz.prog lq [] aA [(etB ET EF)] (fun r=>pa_ (r = true) [(etB ET EF)]):=by
  intro h st
  refine wE ?_
  unfold pz
  exact bM (i:=0) sp_begun1 rfl st fun r h' hr s=>aW hr s
theorem sp_begun2:Sp Tryz.prog ll [] aA [(etB ET EF)] (fun r=>pa_ (r = true) [(etB ET EF)]):=by
  intro h st
  refine wA ?_
  unfold pw
  refine mf (sp_mem_New 2 (by decide) (by decide)) st fun a1 h1 s1=>?_
  refine mf og s1 fun a2 h2 s2=>?_
  refine mf wm s2 fun a3 h3 s3=>?_
  refine mf (sp_mail_New 3 (by decide) (by decide)) s3 fun a4 h4 s4=>?_
  refine mf (sp_cell_New 5) s4 fun a5 h5 s5=>?_
  refine mf sp_ticket_New s5 fun a6 h6 s6=>?_
  refine mf (sp_pool_New 2 (by decide) (by decide)) s6 fun a7 h7 s7=>?_
  have n1:=mem_nn s1
  have n2:=table_nn s2
  have n3:=tlb_nn s3
  have n4:=mail_nn s4
  have n5:=cell_nn s5
  have n6:=lock_nn s6
  have n7:=pool_nn s7
  rw [n1,n2,n3,n4,n5,n6,n7]
  refine dB rfl ?_
  refine bM (i:=5) (ke a2 _ 1 ⟨1,2,3⟩) rfl s7 fun r1 h8 e1 s8=>?_
  refine bM (i:=4) (sp_tlb_Fill a3 _ ⟨1,5,1,1⟩) rfl s8 fun r2 h9 e2 s9=>?_
  refine bM (i:=4) (sp_tlb_Find a3 _ 1 5) rfl s9 fun r3 h10 e3 s10=>?_
  refine bM (i:=3) (sp_mail_All a4 _ 0 4 (fun l hl=>?_)) rfl s10 fun r4 h11 e4 s11=>?_
  · have:l = []:=by simpa using hl
    subst this
    exact ⟨fun _ h=>(by cases h),.nil,by decide⟩
  refine bM (i:=3) (sp_mail_Take a4 _ 2) rfl s11 fun r5 h12 e5 s12=>?_
  refine bM (i:=2) (sp_cell_Up a5 _ 9) rfl s12 fun r6 h13 e6 s13=>?_
  refine bM (i:=1) (sp_ticket_Draw a6 _) rfl s13 fun r7 h14 e7 s14=>?_
  refine bM (i:=0) (wn a7 _) rfl s14 fun r8 h15 e8 s15=>?_
  refine bM (i:=7) sp_Begun1 rfl s15 fun r9 h16 e9 s16=>?_
  subst e1 e2 e3 e4 e5 e6 e7 e8 e9
  refine dU (by kernel_rfl) ?_
  refine bM (i:=1) (sp_ticket_Turn a6 _ 0) rfl s16 fun r10 h17 e10 s17=>?_
  subst e10
  refine dU (by kernel_rfl) ?_
  refine bM (i:=1) (sp_ticket_Pass a6 _ 0) rfl s17 fun r11 h18 e11 s18=>?_
  subst e11
  refine dU (by kernel_rfl) ?_
  refine bM (i:=6) (lI a1 _ 1 3 9) rfl s18 fun r12 h19 e12 s19=>?_
  subst e12
  refine dU (by kernel_rfl) ?_
  refine tP (jg ⟨6,8,0,1,0⟩ 2) s19 fun r13 h20 e13 s20=>?_
  subst e13
  refine dU (by kernel_rfl) ?_
  refine tP (sp_word_Args 3) s20 fun r14 h21 e14 s21=>?_
  subst e14
  refine dU (by kernel_rfl) ?_
  refine xw (i:=5) (sp_table_By a2 _ 2) rfl s21 fun r15 h22 s22=>?_
  have e15:((r15.len:Int) == 1) = true:=by
    rw [(cf (j:=0) s22 rfl).1]
    kernel_rfl
  refine dU e15 ?_
  refine bM (i:=1) (sp_pool_Bits a7 _) rfl s22 fun r16 h23 e16 s23=>?_
  subst e16
  refine aW (by kernel_rfl) (cc (l:=[_,_,_,_,_,_,_,_]) s23)
theorem sp_Begun2:Sp Tryz.prog lm [] aA [(etB ET EF)] (fun r=>pa_ (r = true) [(etB ET EF)]):=by
  intro h st
  refine wB ?_
  unfold px
  exact bM (i:=0) sp_begun2 rfl st fun r h' hr s=>aW hr s
end Go.Proofs.YtmggcfijlpldpaaGreatDoor
namespace Go.Proofs.YtmggcfijlpldpaaGreatDoor
open Go Mb
set_option linter.unusedVariables false
def oy (K:Bool→Hp→Prop):Hp→Prop:=cl Tryz.prog nJ [(.agg (aw.C (⟨1,2,2⟩:aw)).toArray)] dL fun r23=>cl Tryz.prog wY [(.int .i64 2)] sw fun r24=>cl Tryz.prog nM [(.int .i64 3)] iH fun r25=>cl Tryz.prog iE [] gC fun r26=>cl Tryz.prog lg [] ip fun r27=>cl Tryz.prog vJ [(.int .i64 2)] tM fun r28=>br (((((r23.isNone || r24.isNone) || r25.isNone) || r26.isNone) || r27.isNone) || r28.isNone) ( K false) ( cl Tryz.prog dz [(pv r23),(.int .i64 0),(.agg (ah.C (⟨1,1,0,0,0⟩:ah)).toArray)] bh fun r54=>cl Tryz.prog dz [(pv r23),(.int .i64 0),(.agg (ah.C (⟨6,2,1,3,0⟩:ah)).toArray)] bh fun r60=>cl Tryz.prog dz [(pv r23),(.int .i64 0),(.agg (ah.C (⟨21,2,5,77,0⟩:ah)).toArray)] bh fun r65=>cl Tryz.prog dz [(pv r23),(.int .i64 0),(.agg (ah.C (⟨20,2,5,0,0⟩:ah)).toArray)] bh fun r69=>cl Tryz.prog jw [(pv r24),(.int .i64 0),(.int .i64 1),(.int .i64 1)] bg fun r73=>cl Tryz.prog ig [(pv r24),(.int .i64 0),(.int .i64 1),(.int .i64 1),(.int .i64 3),(.int .i64 1)] bg fun r75=>cl Tryz.prog iT [(pv r25),(.int .i64 0)] bJ fun r78=>cl Tryz.prog jV [(pv r25),(.int .i64 1),(.int .u64 r78.1)] aA fun r83=>cl Tryz.prog dZ [(pv r27),(.int .i64 2),(.agg (al.C (⟨1,1,1⟩:al)).toArray)] bg fun r86=>cl Tryz.prog n_user_Do [(pv r26),(pv r27),(pv r28),(.int .i64 0),(.agg (ah.C (⟨20,2,3,0,0⟩:ah)).toArray)] eJ fun r92=>cl Tryz.prog nl [(pv r23),(.int .i64 0),(.agg (ah.C (⟨7,5,0,0,0⟩:ah)).toArray)] iv fun r97=>cl Tryz.prog lm [] aA fun r98=>br ((((((r98 && r54.2) && (r54.1.fErr == 0)) && (r60.1.fErr == 0)) && (r69.1.fVal == 77)) && (r73 == 0)) && (r75 == 0)) ( cl Tryz.prog kT [(pv r24),(.int .i64 0),(.int .i64 1)] cT fun r127=>br (((((r127.len:Int) == 1) && (r78.1 == 1)) && r78.2) && r83) ( cl Tryz.prog jn [(pv r25),(.int .u64 1)] aA fun r143=>br (!r143) ( cl Tryz.prog iS [(pv r25),(.int .u64 1)] cA fun r148=>br ((((((r148.len:Int) == 1) && (r86 == 0)) && (r92.1.fErr == 0)) && (r92.2.fFrame == 1)) && (mO 3 3 4)) ( cl Tryz.prog ko [(.int .i64 3)] iv fun r171=>cl Tryz.prog nL [r97,r171] aA fun r172=>br r172 ( cl Tryz.prog mA [(pv r23)] cA fun r176=>K ((r176.len:Int) == 1)) ( K false)) ( K false)) ( K false)) ( K false)) ( K false))
theorem vj {K:Bool→Hp→Prop} {h:Hp} (H:oy K h):Ct Tryz.prog kA #[] h fun v h'=>∃ r,v = aA r∧K r h':=au [] Tryz.func85 c c c fun _=>M<|O c<|M<|p (bc c<|tI 1 2 2)<|aa<|Z H en_48 fun r23 _ H1=>aa<|Z H1 en_95 fun r24 _ H2=>aa<|Z H2 en_50 fun r25 _ H3=>p (ar c)<|p (ar c)<|O c<|M<|aa<|Z H3 en_51 fun r26 _ H4=>aa<|Z H4 en_96 fun r27 _ H5=>aa<|Z H5 en_93 fun r28 _ H6=>p (ar c)<|p (ar c)<|O c<|ak<|M<|J c<|p (cn Tryz.underlying83 c)<|J c<|V c c (aH _) (fun g7=>wv<|ag c)<|V c c (aH _) (fun g8=>wv<|cn Tryz.underlying147<|aD c g8)<|p (dh c c)<|J c<|V c c (aH _) (fun g9=>wv<|ag c)<|V c c (aH _) (fun g10=>wv<|cn Tryz.underlying86<|aD c g10)<|p (dh c c)<|J c<|V c c (aH _) (fun g11=>wv<|ag c)<|V c c (aH _) (fun g12=>wv<|cn Tryz.underlying94<|aD c g12)<|p (dh c c)<|J c<|V c c (aH _) (fun g13=>wv<|ag c)<|V c c (aH _) (fun g14=>wv<|cn Tryz.underlying153<|aD c g14)<|p (dh c c)<|J c<|V c c (aH _) (fun g15=>wv<|ag c)<|V c c (aH _) (fun g16=>wv<|cn Tryz.underlying144<|aD c g16)<|p (dh c c)<|ad<|av c H6 (fun k17 H18=>M<|O c<|ai<|Y ⟨false,c,H18⟩) fun k17 H18=>an<|M<|J c<|p (bc c<|mg 1 1)<|aa<|Z H18 en_62 fun r54 _ H19=>J c<|p (aj c c)<|p (aj c c)<|aa<|aM (l:=ac.C (⟨0,0⟩:ac)) dc c c fun b7=>aa<|aO (k:=0) (vs:=ac.C r54.1) bN c c c c c c c<|O c<|M<|J c<|p (bc c<|jE 6 2 1 3)<|aa<|Z H19 en_62 fun r60 _ H20=>J c<|p (aj c c)<|p (aj c c)<|aa<|aM (l:=ac.C (⟨0,0⟩:ac)) dc c c fun b9=>aa<|aO (k:=0) (vs:=ac.C r60.1) bN c c c c c c c<|O c<|M<|J c<|p (bc c<|jE 21 2 5 77)<|aa<|Z H20 en_62 fun r65 _ H21=>ad<|M<|J c<|p (bc c<|tG 20 2 5)<|aa<|Z H21 en_62 fun r69 _ H22=>J c<|p (aj c c)<|p (aj c c)<|aa<|aM (l:=ac.C (⟨0,0⟩:ac)) dc c c fun b11=>aa<|aO (k:=0) (vs:=ac.C r69.1) bN c c c c c c c<|O c<|M<|J c<|aa<|Z H22 en_134 fun r73 _ H23=>J c<|aa<|Z H23 en_135 fun r75 _ H24=>p (ar c)<|O c<|M<|J c<|aa<|Z H24 en_59 fun r78 _ H25=>J c<|p (aj c c)<|p (aj c c)<|p (ar c)<|O c<|M<|J c<|J c<|aa<|Z H25 en_124 fun r83 _ H26=>O c<|M<|J c<|p (bc c<|na 1 1 1)<|aa<|Z H26 en_100 fun r86 _ H27=>O c<|M<|J c<|J c<|J c<|p (bc c<|tG 20 2 3)<|aa<|Z H27 en_136 fun r92 _ H28=>J c<|p (aj c c)<|p (aj c c)<|aa<|aM (l:=ac.C (⟨0,0⟩:ac)) dc c c fun b19=>aa<|aM (l:=am.C (⟨0,0,0,0⟩:am)) kK c c fun b20=>aa<|aO (k:=1) (vs:=ac.C r92.1) bN c c c c c c c<|aa<|aO (k:=0) (vs:=am.C r92.2) fw c c c c c c c<|ad<|M<|J c<|p (bc c<|mg 7 5)<|aa<|Z H28 en_137 fun r97 _ H29=>O c<|M<|aa<|Z H29 en_138 fun r98 _ H30=>J c<|V c c (ax _) (fun g31=>wv<|ag c)<|p (bT c c)<|J c<|V c c (ax _) (fun g32=>wv<|ae kj c)<|V c c (ax _) (fun g33=>cv<|ba (k:=4) oB (aD c g33) c c)<|V c c (ax _) (fun g34=>wv<|bL (aD c g34) c)<|p (bT c c)<|J c<|V c c (ax _) (fun g35=>wv<|ae kj c)<|V c c (ax _) (fun g36=>cv<|ba (k:=3) oB (aD c g36) c c)<|V c c (ax _) (fun g37=>wv<|bL (aD c g37) c)<|p (bT c c)<|J c<|V c c (ax _) (fun g38=>wv<|ae fld_30_1 c)<|V c c (ax _) (fun g39=>cv<|ba (k:=2) ct (aD c g39) c c)<|V c c (ax _) (fun g40=>wv<|bL (aD c g40) c)<|p (bT c c)<|J c<|V c c (ax _) (fun g41=>wv<|ag c)<|V c c (ax _) (fun g42=>wv<|bL (aD c g42) c)<|p (bT c c)<|J c<|V c c (ax _) (fun g43=>wv<|ag c)<|V c c (ax _) (fun g44=>wv<|bL (aD c g44) c)<|p (bT c c)<|J c<|V c c (ax _) (fun g45=>wv<|ag c)<|bO H30 (fun k47 H48=>F (D k47)<|fX H48 en_139 (aP (aD c k47)<|aP c<|aP c bS) c fun r127 _ H49=>F (D k47)<|I (dy c Tryz.underlying197 c)<|F (D k47)<|I (bL c c)<|p (aQ c k47 c)<|J c<|V c c (ax _) (fun g50=>wv<|ag c)<|V c c (ax _) (fun g51=>wv<|bL (aD c g51) c)<|p (bT c c)<|J c<|V c c (ax _) (fun g52=>wv<|ag c)<|p (bT c c)<|J c<|V c c (ax _) (fun g53=>wv<|ag c)<|p (bT c c)<|J c<|V c c (ax _) (fun g54=>wv<|ag c)<|bO H49 (fun k56 H57=>F (D k56)<|fX H57 en_61 (aP (aD c k56)<|aP c bS) c fun r143 _ H58=>F (D k56)<|I (cq c)<|p (aQ c k56 c)<|J c<|V c c (ax _) (fun g59=>wv<|ag c)<|bO H58 (fun k61 H62=>F (D k61)<|fX H62 en_111 (aP (aD c k61)<|aP c bS) c fun r148 _ H63=>F (D k61)<|I (dy c Tryz.underlying40 c)<|F (D k61)<|I (bL c c)<|p (aQ c k61 c)<|J c<|V c c (ax _) (fun g64=>wv<|ag c)<|V c c (ax _) (fun g65=>wv<|bL (aD c g65) c)<|p (bT c c)<|J c<|V c c (ax _) (fun g66=>wv<|ae kj c)<|V c c (ax _) (fun g67=>cv<|ba (k:=1) oB (aD c g67) c c)<|V c c (ax _) (fun g68=>wv<|bL (aD c g68) c)<|p (bT c c)<|J c<|V c c (ax _) (fun g69=>wv<|ae lz c)<|V c c (ax _) (fun g70=>cv<|ba (k:=0) aY (aD c g70) c c)<|V c c (ax _) (fun g71=>wv<|bL (aD c g71) c)<|p (bT c c)<|J c<|cY (vs:=[(.int .i64 3),(.int .u64 3),(.int .u64 4)]) c c c (ax _) (fun g72=>bu<|uV 3 3 4 _) en_140 (fun g72=>c) c<|p (bT c c)<|J c<|V c c (ax _) (fun g73=>wv<|ag c)<|bO H63 (fun k75 H76=>F (D k75)<|Z H76 xt fun r171 _ H77=>F (D k75)<|fX H77 en_141 (aP (aD c k75)<|aP c bS) c fun r172 _ H78=>p (aQ c k75 c)<|J c<|V c c (ax _) (fun g79=>wv<|ag c)<|bO H78 (fun k81 H82=>F (D k81)<|fX H82 en_46 (aP (aD c k81) bS) c fun r176 _ H83=>F (D k81)<|I (dy c Tryz.underlying40 c)<|F (D k81)<|I (bL c c)<|p (aQ c k81 c)<|O c<|ai<|Y ⟨((r176.len:Int) == 1),c,H83⟩) fun k81 H82=>W (aS k81)<|W (aS k81)<|W (aS k81)<|p (ap c k81 c)<|O c<|ai<|Y ⟨false,c,H82⟩) fun k75 H76=>W (aS k75)<|W (aS k75)<|p (ap c k75 c)<|J c<|W c<|W c<|W c<|W c<|p (ap c c c)<|O c<|ai<|Y ⟨false,c,H76⟩) fun k61 H62=>W (aS k61)<|W (aS k61)<|W (aS k61)<|p (ap c k61 c)<|J c<|W c<|W c<|p (ap c c c)<|J c<|W c<|W c<|W c<|p (ap c c c)<|J c<|W c<|W c<|W c<|p (ap c c c)<|J c<|W c<|p (ap c c c)<|J c<|W c<|W c<|W c<|p (ap c c c)<|J c<|W c<|W c<|W c<|W c<|p (ap c c c)<|O c<|ai<|Y ⟨false,c,H62⟩) fun k56 H57=>W (aS k56)<|W (aS k56)<|p (ap c k56 c)<|J c<|W c<|W c<|W c<|W c<|p (ap c c c)<|J c<|W c<|W c<|p (ap c c c)<|J c<|W c<|W c<|W c<|p (ap c c c)<|J c<|W c<|W c<|W c<|p (ap c c c)<|J c<|W c<|p (ap c c c)<|J c<|W c<|W c<|W c<|p (ap c c c)<|J c<|W c<|W c<|W c<|W c<|p (ap c c c)<|O c<|ai<|Y ⟨false,c,H57⟩) fun k47 H48=>W (aS k47)<|W (aS k47)<|W (aS k47)<|p (ap c k47 c)<|J c<|W c<|W c<|p (ap c c c)<|J c<|W c<|p (ap c c c)<|J c<|W c<|p (ap c c c)<|J c<|W c<|W c<|W c<|p (ap c c c)<|J c<|W c<|W c<|W c<|W c<|p (ap c c c)<|J c<|W c<|W c<|p (ap c c c)<|J c<|W c<|W c<|W c<|p (ap c c c)<|J c<|W c<|W c<|W c<|p (ap c c c)<|J c<|W c<|p (ap c c c)<|J c<|W c<|W c<|W c<|p (ap c c c)<|J c<|W c<|W c<|W c<|W c<|p (ap c c c)<|O c<|ai<|Y ⟨false,c,H48⟩
def oz (K:Bool→Hp→Prop):Hp→Prop:=cl Tryz.prog kA [] aA fun r1=>K r1
theorem vm {K:Bool→Hp→Prop} {h:Hp} (H:oz K h):Ct Tryz.prog kB #[] h fun v h'=>∃ r,v = aA r∧K r h':=au [] Tryz.func42 c c c fun _=>M<|O c<|M<|aa<|Z H en_85 fun r1 _ H1=>O c<|ai<|Y ⟨r1,c,H1⟩
end Go.Proofs.YtmggcfijlpldpaaGreatDoor
namespace Go.Proofs.YtmggcfijlpldpaaGreatDoor
open Go Mb
variable {ET:Nat} {EF:Nat × Nat}
section
variable {l:List As} {h:Hp} {x:Ptr}
theorem plain_nn {k:PK} (s:aG (bo x k::l) h):x.isNone = false:=nn_of (fun _ e=>by rw [e.1]; rfl) s
theorem tree_nn {k:Caps.T} (s:aG (cJ x k::l) h):x.isNone = false:=nn_of (fun _ e=>by rw [e.1]; rfl) s
theorem epochs_nn {k:List Int × List Int} (s:aG (eW x k::l) h):x.isNone = false:=nn_of (fun _ e=>by rw [e.1]; rfl) s
end
theorem sp_plain_Err (x:Ptr) (k:PK) (e:Int) (c:ah) (h1:(PK.do_ k e c).1.2 = true) (h2:(PK.do_ k e c).1.1.fErr ≠ 0):Sp Tryz.prog nl [pv x,.int .i64 e,.agg c.C.toArray] iv [(etB ET EF),bo x k]
    (fun r=>ex fun b:Nat × Nat=>pa_ (r = dv b.1) [trB b.1 ⟨(PK.do_ k e c).1.1.fErr,e,c,dv b.2⟩,(etB ET EF),bo x k]):=by
  intro h st
  have hn:=plain_nn (bb [1] st rfl)
  refine sim_plain_Kernel_Err _ _ _ ?_
  unfold rC
  refine dB hn ?_
  refine xw (i:=1) (uI x k) rfl st fun y g1 s1=>?_
  refine bM (i:=0) (jI y k e c) rfl s1 fun r g2 hr s2=>?_
  subst hr
  refine dB (by rw [h1]; rfl) ?_
  refine cO [] (rest:=[_,_,_]) (sp_Of _ h2) s2 rfl fun r g3 s3=>?_
  obtain ⟨b,x3⟩:=uC s3
  obtain ⟨rfl,y3⟩:=bt.1 x3
  refine cO [2,0] (rest:=[_,_]) (sp_In e c b _) y3 rfl fun r g4 s4=>?_
  obtain ⟨d,x4⟩:=uC s4
  obtain ⟨rfl,y4⟩:=bt.1 x4
  refine ⟨(d,b),aW rfl (cc (l:=[_,_]) (bb [2,2] y4 rfl))⟩
theorem sp_begun11:Sp Tryz.prog kA [] aA [(etB ET EF)] (fun r=>pa_ (r = true) [(etB ET EF)]):=by
  intro h st
  refine vj ?_
  unfold oy
  refine mf (rS ⟨1,2,2⟩ (by decide)) st fun a1 h1 s1=>?_
  refine mf (sp_caps_New 2 (by decide) (by decide)) s1 fun a2 h2 s2=>?_
  refine mf (rU 3 (by decide) (by decide)) s2 fun a3 h3 s3=>?_
  refine mf wm s3 fun a4 h4 s4=>?_
  refine mf og s4 fun a5 h5 s5=>?_
  refine mf (sp_mem_New 2 (by decide) (by decide)) s5 fun a6 h6 s6=>?_
  have n1:=plain_nn s1
  have n2:=tree_nn s2
  have n3:=epochs_nn s3
  have n4:=tlb_nn s4
  have n5:=table_nn s5
  have n6:=mem_nn s6
  rw [n1,n2,n3,n4,n5,n6]
  refine dB rfl ?_
  refine bM (i:=5) (jI a1 _ 0 ⟨1,1,0,0,0⟩) rfl s6 fun r1 h7 e1 s7=>?_
  refine bM (i:=5) (jI a1 _ 0 ⟨6,2,1,3,0⟩) rfl s7 fun r2 h8 e2 s8=>?_
  refine bM (i:=5) (jI a1 _ 0 ⟨21,2,5,77,0⟩) rfl s8 fun r3 h9 e3 s9=>?_
  refine bM (i:=5) (jI a1 _ 0 ⟨20,2,5,0,0⟩) rfl s9 fun r4 h10 e4 s10=>?_
  refine bM (i:=4) (wt a2 _ 0 1 1) rfl s10 fun r5 h11 e5 s11=>?_
  refine bM (i:=4) (sM a2 _ 0 1 1 3 1) rfl s11 fun r6 h12 e6 s12=>?_
  refine bM (i:=3) (sp_epoch_Begin a3 _ 0 (by decide)) rfl s12 fun r7 h13 e7 s13=>?_
  subst e7
  refine bM (i:=3) (sp_epoch_Ack a3 _ 1 _) rfl s13 fun r8 h14 e8 s14=>?_
  refine bM (i:=1) (ke a5 _ 2 ⟨1,1,1⟩) rfl s14 fun r9 h15 e9 s15=>?_
  refine cO [2,1,0] (rest:=[_,_,_,_]) (sp_user_Do a4 a5 a6 _ _ _ 0 ⟨20,2,3,0,0⟩) s15 rfl fun r10 h16 x16=>?_
  obtain ⟨e10,s16⟩:=bt.1 x16
  subst e1 e2 e3 e4 e5 e6 e8 e9 e10
  refine cO [6,5] (rest:=[_,_,_,_,_]) (sp_plain_Err a1 _ 0 ⟨7,5,0,0,0⟩ (by kernel_rfl) (by decide)) s16 rfl fun r11 h17 x17=>?_
  obtain ⟨⟨b,b'⟩,z17⟩:=uC x17
  obtain ⟨rfl,s17⟩:=bt.1 z17
  refine bM (i:=1) sp_Begun2 rfl s17 fun r12 h18 e12 s18=>?_
  subst e12
  refine dU (by kernel_rfl) ?_
  refine xw (i:=7) (sp_caps_Below a2 _ 0 1) rfl s18 fun r13 h19 s19=>?_
  have e13:((r13.len:Int) == 1) = true:=by
    rw [(cf (j:=0) s19 rfl).1]
    kernel_rfl
  rw [e13]
  refine dU (by kernel_rfl) ?_
  refine bM (i:=7) (sp_epoch_Done a3 _ 1) rfl s19 fun r14 h20 e14 s20=>?_
  subst e14
  refine dU (by kernel_rfl) ?_
  refine xw (i:=7) (sp_epoch_Waits a3 _ 1) rfl s20 fun r15 h21 s21=>?_
  have e15:((r15.len:Int) == 1) = true:=by
    rw [(cf (j:=0) s21 rfl).1]
    kernel_rfl
  rw [e15]
  refine dU (by kernel_rfl) ?_
  refine cO [] (rest:=[_,_,_,_,_,_,_,_,_,_]) (sp_Of 3 (by decide)) s21 rfl fun r16 h22 x22=>?_
  obtain ⟨d,z22⟩:=uC x22
  obtain ⟨rfl,s22⟩:=bt.1 z22
  refine cO [3,0] (rest:=[_,_,_,_,_,_,_,_,_]) (sp_Is1 b d _ tr3 (by kernel_rfl) (.inr ⟨b',by kernel_rfl⟩)) s22 rfl fun r17 h23 x23=>?_
  obtain ⟨rfl,s23⟩:=bt.1 x23
  refine dU rfl ?_
  refine xw (i:=5) (sp_plain_Free a1 _) rfl s23 fun r18 h24 s24=>?_
  have e18:((r18.len:Int) == 1) = true:=by
    rw [(cf (j:=0) s24 rfl).1]
    kernel_rfl
  exact aW e18 (cc (l:=[_,_,_,_,_,_,_,_,_,_,_]) (bb [0,0,0,0,0,1,1,1,1,1,1] s24 rfl))
theorem sp_Begun11:Sp Tryz.prog kB [] aA [(etB ET EF)] (fun r=>pa_ (r = true) [(etB ET EF)]):=by
  intro h st
  refine vm ?_
  unfold oz
  exact bM (i:=0) sp_begun11 rfl st fun r h' hr s=>aW hr s
end Go.Proofs.YtmggcfijlpldpaaGreatDoor
namespace Go.Proofs.YtmggcfijlpldpaaGreatDoor
open Go Mb
theorem calls_nil:∀ (n:Nat) {l:List As} {h:Hp},aG l h→aG (all iD (List.replicate n (none:Ptr)) (List.replicate n (none:Option KC))::l) h
  | 0,_,_,s=>all_nil s
  | n + 1,l,h,s=>by
    have s1:=star_cons (A:=iD none none) (fun _=>rfl) (calls_nil n s)
    rw [List.replicate_succ,List.replicate_succ]
    obtain ⟨h1,h2,d,e,a,h3,h4,d2,e2,b,s'⟩:=s1
    subst e2
    obtain ⟨d3,d4⟩:=Dj.of_un_right d
    exact ⟨un h1 h3,h4,Dj.un_left d4 d2,by rw [e,mF],⟨h1,h3,d3,rfl,a,b⟩,s'⟩
def newI (s:io) (b n:Nat) (pp pm pe:Ptr) (cs:Sl) (i:Int) (h:Hp):Prop:=∃ (j:Nat) (ts:Sl) (tp:List Ptr),i = j∧j ≤ n∧tp.length = j∧aG [blk b ci [pv pp,.int .i64 s.fEnvs,sv ts,pv pm,pv pe,sv cs,sv (⟨none,0,0,none⟩:Sl),.int .i64 0],bo pp (PK.new s),vQ sI ts tp,all fe tp (List.replicate j tlb0),ji pm (List.replicate n []),eW pe ([],List.replicate n 0),vQ fo cs (List.replicate n none),all iD (List.replicate n none) (List.replicate n none),vE (⟨none,0,0,none⟩:Sl) []] h
theorem new_round {s:io} {b n:Nat} {pp pm pe:Ptr} {cs:Sl} (hn8:n ≤ 8) {i:Int} {h:Hp} (H:newI s b n pp pm pe cs i h) (hi:i < n) :
    (both (ld (b,2) cS fun x31=>cl Tryz.prog iE [] gC fun r32=>hpv Tryz.prog (Instr.buildSlice bQ 1 #[(0,(pv r32))]) dP fun (v33:Sl)=>hpv Tryz.prog (Builtin.append_ #[bQ,bQ] bQ #[(sv x31),(sv v33)]) dP fun (v34:Sl)=>Mb.st (b,2) [sv v34] fun h'=>newI s b n pp pm pe cs (IntKind.i64.wrap (i + 1)) h'∧n - (IntKind.i64.wrap (i + 1)).toNat < n - i.toNat)
     (cl Tryz.prog iE [] gC fun r32=>ld (b,2) cS fun x31=>hpv Tryz.prog (Instr.buildSlice bQ 1 #[(0,(pv r32))]) dP fun (v33:Sl)=>hpv Tryz.prog (Builtin.append_ #[bQ,bQ] bQ #[(sv x31),(sv v33)]) dP fun (v34:Sl)=>Mb.st (b,2) [sv v34] fun h'=>newI s b n pp pm pe cs (IntKind.i64.wrap (i + 1)) h'∧n - (IntKind.i64.wrap (i + 1)).toNat < n - i.toNat)) h:=by
  obtain ⟨j,ts,tp,rfl,hj,htp,s6⟩:=H
  have hlt:j < n:=by omega
  have hw:IntKind.i64.wrap ((j:Int) + 1) = ((j + 1:Nat):Int):=by rw [bP (by omega) (by omega)]; rfl
  rw [hw]
  have fin:∀ (r:Ptr) (v:Sl) (h:Hp),aG [fe r tlb0,blk b ci [pv pp,.int .i64 s.fEnvs,sv ts,pv pm,pv pe,sv cs,sv (⟨none,0,0,none⟩:Sl),.int .i64 0],bo pp (PK.new s),vQ sI v (tp++[r]),all fe tp (List.replicate j tlb0),ji pm (List.replicate n []),eW pe ([],List.replicate n 0),vQ fo cs (List.replicate n none),all iD (List.replicate n none) (List.replicate n none),vE (⟨none,0,0,none⟩:Sl) []] h →
      Mb.st (b,2) [sv v] (fun h'=>newI s b n pp pm pe cs ((j + 1:Nat):Int) h'∧n - ((j + 1:Nat):Int).toNat < n - (j:Int).toNat) h:=by
    intro r v h s7
    refine tN (i:=1) s7 rfl (Nat.le_of_ble_eq_true rfl) fun h8 s8=>?_
    refine ⟨⟨j + 1,v,tp++[r],rfl,hlt,by simp [htp],?_⟩,by simp; omega⟩
    have s9:=all_push (by simp [htp]) (bb [0,3] s8 rfl)
    have e:List.replicate j tlb0++[tlb0] = List.replicate (j + 1) tlb0:=List.replicate_succ'.symm
    rw [e] at s9
    exact bb [1,1,1,0] s9 rfl
  refine ⟨?_,?_⟩
  · refine bk ts s6 (i:=0) rfl rfl rfl ?_
    refine mf wm s6 fun r h7 s7=>?_
    refine ku (τ:=Ptr) (i:=3) (enc:=cP) (val:=fun x=>pv x) el_SPtlb_Tlb gA cP_one (fun _=>rfl) (by omega) rfl rfl s7 rfl (by omega) (by omega) fun v h8 s8=>?_
    exact fin r v h8 s8
  · refine mf wm s6 fun r h7 s7=>?_
    refine bk ts s7 (i:=1) rfl rfl rfl ?_
    refine ku (τ:=Ptr) (i:=3) (enc:=cP) (val:=fun x=>pv x) el_SPtlb_Tlb gA cP_one (fun _=>rfl) (by omega) rfl rfl s7 rfl (by omega) (by omega) fun v h8 s8=>?_
    exact fin r v h8 s8
theorem new_start {s:io} {b n:Nat} {pp pm pe:Ptr} {cs:Sl} {h:Hp}
    (st:aG [blk b ci (fD.C (⟨pp,s.fEnvs,(⟨none,0,0,none⟩:Sl),pm,pe,cs,(⟨none,0,0,none⟩:Sl),0⟩:fD)),bo pp (PK.new s),ji pm (List.replicate n []),eW pe ([],List.replicate n 0),vQ fo cs (List.replicate n none)] h):newI s b n pp pm pe cs 0 h:=by
  have s1:=fH (τ:=ce) (T:=t_api_Event) (m:=16) (enc:=aC.C) (calls_nil n (fH (τ:=Ptr) (T:=sI) (m:=1) (enc:=cP) (all_nil (A:=fe) st)))
  exact ⟨0,⟨none,0,0,none⟩,[],rfl,Nat.zero_le _,rfl,bb [4,4,2,2,2,2,2,1] s1 rfl⟩
theorem new_end {s:io} (hs:PK.sized s = true) {b n:Nat} (hn:s.fCores = n) {pp pm pe:Ptr} {cs:Sl} {h:Hp} (H:newI s b n pp pm pe cs n h):aG [cM (some (b,0)) (KK.new s)] h:=by
  obtain ⟨j,ts,tp,hj,hj2,htp,s6⟩:=H
  have:j = n:=by omega
  subst this
  have ok:=kok_new hs
  have e:KK.new s = ⟨PK.new s,List.replicate j tlb0,List.replicate j [],([],List.replicate j 0),List.replicate j none,[],0⟩:=by unfold KK.new; rw [hn]; rfl
  rw [e] at ok ⊢
  exact mZ (z:=⟨b,pp,ts,tp,pm,pe,cs,List.replicate j none,⟨none,0,0,none⟩⟩) ⟨by simpa using htp,by simp⟩ ok s6
theorem sp_kern_New (s:io) (hs:PK.sized s = true):Sp Tryz.prog wW [.agg s.C.toArray] su [] (fun r=>aG [cM r (KK.new s)]):=by
  intro h st
  have hz:=fK.1 hs
  obtain ⟨n,hn⟩:=Int.eq_ofNat_of_zero_le (show 0 ≤ s.fCores by omega)
  have hn8:n ≤ 8:=by omega
  refine sim_kern_New _ ?_
  unfold sh_kern_New
  refine mf (rS s hs) st fun pp h1 s1=>?_
  have hpp:pp.isNone = false:=by
    obtain ⟨_,h2,_⟩:=fI s1; rw [h2]; rfl
  refine dB hpp ?_
  have mk:∀ {l:List As} {h:Hp} {K:Sl→Hp→Prop},aG l h→(∀ v h',aG (vQ fo v (List.replicate n none)::l) h'→K v h')→hpv Tryz.prog (Instr.makeSlice mL (.int .i64 s.fCores) (.int .i64 s.fCores)) qr K h:=by
    intro l h K s2 k
    rw [hn]
    exact nN (τ:=Ptr) (x0:=none) (enc:=cP) (n:=n) (T:=fo) (m:=1) el_SPkern_call rfl s2 (by omega) (by omega) k
  have em:s.fCores.toNat = n:=by omega
  refine ⟨?_,?_⟩
  · refine mf (sp_mail_New s.fCores (by omega) (by omega)) s1 fun pm h2 s2=>?_
    refine ⟨?_,?_⟩
    · refine mf (rU s.fCores (by omega) (by omega)) s2 fun pe h3 s3=>?_
      rw [em] at s3
      refine mk s3 fun cs h4 s4=>?_
      refine pf s4 fun b h5 s5=>?_
      refine Lp.intro (fun (i:Int) h=>newI s b n pp pm pe cs i h) (fun (i:Int) _=>n - i.toNat) (new_start (bb [0,4,3,2,1] s5 rfl)) ?_
      intro i h H
      unfold kern_New_l1
      refine aX (fun d=>new_round hn8 H (by have:=of_decide_eq_true d; omega)) (fun d=>?_)
      have:i = n:=by obtain ⟨j,_,_,e,hj,_⟩:=H; have:=of_decide_eq_false d; omega
      subst this
      exact new_end hs hn H
    · refine mk s2 fun cs h3 s3=>?_
      refine mf (rU s.fCores (by omega) (by omega)) s3 fun pe h4 s4=>?_
      rw [em] at s4
      refine pf s4 fun b h5 s5=>?_
      refine Lp.intro (fun (i:Int) h=>newI s b n pp pm pe cs i h) (fun (i:Int) _=>n - i.toNat) (new_start (bb [0,3,2,0,0] s5 rfl)) ?_
      intro i h H
      unfold kern_New_l2
      refine aX (fun d=>new_round hn8 H (by have:=of_decide_eq_true d; omega)) (fun d=>?_)
      have:i = n:=by obtain ⟨j,_,_,e,hj,_⟩:=H; have:=of_decide_eq_false d; omega
      subst this
      exact new_end hs hn H
  · refine mk s1 fun cs h2 s2=>?_
    refine mf (sp_mail_New s.fCores (by omega) (by omega)) s2 fun pm h3 s3=>?_
    refine mf (rU s.fCores (by omega) (by omega)) s3 fun pe h4 s4=>?_
    rw [em] at s4
    refine pf s4 fun b h5 s5=>?_
    refine Lp.intro (fun (i:Int) h=>newI s b n pp pm pe cs i h) (fun (i:Int) _=>n - i.toNat) (new_start (bb [0,3,1,0,0] s5 rfl)) ?_
    intro i h H
    unfold kern_New_l3
    refine aX (fun d=>new_round hn8 H (by have:=of_decide_eq_true d; omega)) (fun d=>?_)
    have:i = n:=by obtain ⟨j,_,_,e,hj,_⟩:=H; have:=of_decide_eq_false d; omega
    subst this
    exact new_end hs hn H
end Go.Proofs.YtmggcfijlpldpaaGreatDoor
