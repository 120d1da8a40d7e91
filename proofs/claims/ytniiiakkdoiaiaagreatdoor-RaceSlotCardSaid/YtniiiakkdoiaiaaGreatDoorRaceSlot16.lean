/- Part of the proof of: The law RaceSlot returns true for every input, and leaves its arguments as they were. -/
import Derived.Test.YtniiiakkdoiaiaaGreatDoorRaceSlot15
set_option linter.all false
set_option maxRecDepth 20000
namespace Go.Proofs.YtniiiakkdoiaiaaGreatDoor
open Go Mb
set_option linter.unusedVariables false
def sh_trap_Of (a0:Int) (K:Value→Hp→Prop):Hp→Prop:=br (a0 == 0) ( K Value.nilIface) ( nw nu (bW.C (⟨a0,(-1),(⟨0,0,0,0,0⟩:ae),Value.nilIface⟩:bW)) fun b7=>hpv Tryz.prog (Instr.makeInterface be (.pointer (some ⟨b7,0,none⟩))) encV fun (v8:Value)=>K v8)
theorem sim_trap_Of (a0:Int) {K:Value→Hp→Prop} {h:Hp} (H:sh_trap_Of a0 K h):Ct Tryz.prog ku #[(.int .i64 a0)] h fun v h'=>∃ r,v = iq r∧K r h':=aw [(.int .i64 a0)] Tryz.func134 c c c fun _=>M<|O c<|ak<|M<|J c<|p (bM c c)<|ac<|av c H (fun k1 H2=>M<|O c<|ai<|Y ⟨Value.nilIface,c,H2⟩) fun k1 H2=>an<|M<|J c<|p (aZ c<|build_228_0_1 a0 (-1))<|aa<|hG c c c H2 fun b7 _ H3=>aa<|aR H3 (gu c) c fun v8 _ H4=>O c<|ai<|Y ⟨v8,c,H4⟩
def mB (K:(Ptr × Bool)→Hp→Prop) (b4:Nat) (s2:Bool):Hp→Prop:=br s2 ( K (none,false)) ( ld (b4,0) cP fun x13=>K (x13,true))
def uH (a0:Value) (K:(Ptr × Bool)→Hp→Prop):Hp→Prop:=nw be [pv none] fun b4=>hpv Tryz.prog (Instr.makeInterface bA (.pointer (some ⟨b4,0,none⟩))) encV fun (v6:Value)=>cl Tryz.prog um [a0,v6] aB fun r7=>br (!(!r7)) ( ld (b4,0) cP fun x10=>mB K b4 x10.isNone) ( mB K b4 true)
theorem sim_trap_First (a0:Value) {K:(Ptr × Bool)→Hp→Prop} {h:Hp} (H:uH a0 K h):Ct Tryz.prog jT #[a0] h fun v h'=>∃ r,v = eE r∧K r h':=aw [a0] Tryz.func202 c c c fun _=>M<|p (ar c)<|O c<|M<|aa<|to_alloc zero_226 c c H fun b4 _ H1=>ac<|ak<|eo (mB K b4) (fun s2=>[(4,(.pointer (some ⟨b4,0,none⟩))),(12,(.bool s2))]) (fun s2=>[]) (ao<|J c<|aa<|aR H1 (gu c) c fun v6 _ H7=>aa<|Z H7 en_207 fun r7 _ H8=>p (cn c)<|J c<|bT H8 (fun k10 H11=>F (D<|cf k10)<|aV H11 sc_226 c (fun _=>c) c fun x10 H12=>F (D<|cf k10)<|R (cm Tryz.underlying226 c)<|p (aq c (cf k10) c)<|ac<|cE x10.isNone H12 (.cons c<|.cons c<|.nil _) .slnil) fun k10 H11=>W (cc<|bH k10)<|W (cc<|bH k10)<|p (aT c (bH k10) c)<|ac<|cE true H11 (.cons c<|.cons c<|.nil _) .slnil) fun s2 _ H3=>av c H3 (fun k4 H5=>M<|p (ar c)<|O c<|ai<|bw (bR c (bY c)<|bY c) ⟨(none,false),c,H5⟩) fun k4 H5=>an<|M<|aa<|aV H5 sc_226 c (fun _=>c) c fun x13 H6=>p (ar c)<|O c<|ai<|bw (bR c (bY c)<|bY c) ⟨(x13,true),c,H6⟩
def sh_trap_Code (a0:Value) (K:Int→Hp→Prop):Hp→Prop:=hpv Tryz.prog (do eqGuard .eql 171 (.tmp 5) (.const Value.nilIface) a0 Value.nilIface; binOp .eql 171 a0 Value.nilIface:Sem Value) aB fun (v6:Bool)=>br v6 ( K 0) ( cl Tryz.prog jT [a0] eE fun r9=>br r9.2 ( nn r9.1 fun q14=>ld (q14.1,q14.2 + 0) (cI .i64) fun x16=>K x16) ( K 9))
theorem sim_trap_Code (a0:Value) {K:Int→Hp→Prop} {h:Hp} (H:sh_trap_Code a0 K h):Ct Tryz.prog uj #[a0] h fun v h'=>∃ r,v = bc r∧K r h':=aw [a0] Tryz.func189 c c c fun _=>M<|O c<|ak<|M<|J c<|aa<|aR H (gi c c) c fun v6 _ H1=>ac<|av c H1 (fun k2 H3=>M<|O c<|ai<|Y ⟨0,c,H3⟩) fun k2 H3=>an<|ak<|M<|J c<|aa<|Z H3 en_202 fun r9 _ H4=>J c<|p (aj c c)<|p (aj c c)<|p (ar c)<|O c<|M<|J c<|ac<|av c H4 (fun k5 H6=>M<|J c<|bE H6 fun q14 e7 H8=>p (aI<|aL c<|ap e7)<|p (ad vC c)<|aa<|aV H8 nE c (fun _=>c) c fun x16 H9=>O c<|ai<|Y ⟨x16,c,H9⟩) fun k5 H6=>an<|M<|O c<|ai<|Y ⟨9,c,H6⟩
def sh_trap_In (a0:Int) (a1:ae) (a2:Value) (K:Value→Hp→Prop):Hp→Prop:=hpv Tryz.prog (do eqGuard .eql 171 (.tmp 7) (.const Value.nilIface) a2 Value.nilIface; binOp .eql 171 a2 Value.nilIface:Sem Value) aB fun (v8:Bool)=>br v8 ( K Value.nilIface) ( cl Tryz.prog uj [a2] bc fun r10=>hpv Tryz.prog (Instr.build nu #[(0,(.int .i64 r10)),(1,(.int .i64 a0)),(2,(.agg (ae.C a1).toArray)),(3,a2)]) R_trap_Trap fun (v14:bW)=>nw nu (bW.C v14) fun b15=>hpv Tryz.prog (Instr.makeInterface be (.pointer (some ⟨b15,0,none⟩))) encV fun (v16:Value)=>K v16)
theorem sim_trap_In (a0:Int) (a1:ae) (a2:Value) {K:Value→Hp→Prop} {h:Hp} (H:sh_trap_In a0 a1 a2 K h):Ct Tryz.prog n_trap_In #[(.int .i64 a0),(.agg (ae.C a1).toArray),a2] h fun v h'=>∃ r,v = iq r∧K r h':=aw [(.int .i64 a0),(.agg (ae.C a1).toArray),a2] Tryz.func168 c c c fun _=>M<|aa<|cJ (l:=ae.C a1) c c c fun b4=>O c<|ak<|M<|J c<|aa<|aR H (gi c c) c fun v8 _ H1=>ac<|av c H1 (fun k2 H3=>M<|O c<|ai<|Y ⟨Value.nilIface,c,H3⟩) fun k2 H3=>an<|ak<|bm (n:=9) [bx b4 27 (ae.C a1)] ck c (.cons_cons _ .slnil)<|U 0 c (ah c)<|U 2 c (ah c)<|z_E 3 c (dZ (k:=0) fh c c c c)<|U 4 c (ah c)<|G 1 c<|Z H3 en_189 fun r10 _ H4=>⟨.cons_cons _ .slnil,G 5 c<|aR H4 (x_build (vs:=[(.int .i64 r10),(.int .i64 a0),(.agg (ae.C a1).toArray),a2]) c) c fun v14 _ H5=>⟨.cons_cons _ .slnil,G 6 c<|hG c c c H5 fun b15 _ H6=>⟨.cons_cons _ .slnil,G 7 c<|aR H6 (gu c) c fun v16 _ H7=>⟨.cons_cons _ .slnil,U 8 c (ar c)<|aU (by kernel_rfl)<|ai<|Y ⟨v16,c,H7⟩⟩⟩⟩⟩
def mC (K:Int→Hp→Prop) (Rec3:(Int × Ptr × Bool)→Hp→Prop) (s2:Int × Ptr × Bool):Hp→Prop:=br s2.2.2 ( nn s2.2.1 fun q14=>ld (q14.1,q14.2 + 7) cV fun x16=>cl Tryz.prog jT [x16] eE fun r17=>Rec3 ((IntKind.i64.wrap (s2.1 + 1)),r17.1,r17.2)) ( K s2.1)
def sh_trap_Depth (a0:Value) (K:Int→Hp→Prop):Hp→Prop:=cl Tryz.prog jT [a0] eE fun r8=>Lp (mC K) (0,r8.1,r8.2)
theorem sim_trap_Depth (a0:Value) {K:Int→Hp→Prop} {h:Hp} (H:sh_trap_Depth a0 K h):Ct Tryz.prog wT #[a0] h fun v h'=>∃ r,v = eA r∧K r h':=aw [a0] Tryz.func208 c c c fun _=>M<|O c<|M<|O c<|ak<|M<|J c<|aa<|Z H en_202 fun r8 _ H1=>J c<|p (aj c c)<|p (aj c c)<|p (ar c)<|O c<|ax<|bD (step:=mC K) (fun s2=>[(3,(.int .i64 s2.1)),(4,(pv s2.2.1)),(5,(.bool s2.2.2))]) (fun s2=>[]) H1 (.cons c<|.cons c<|.cons c<|.nil _) .slnil fun Rec3 s2 _ H4=>ak<|M<|J c<|ac<|av c H4 (fun k5 H6=>an<|ak<|ax<|ao<|J c<|p (bp c c)<|O c<|ao<|J c<|bE H6 fun q14 e7 H8=>p (aI<|aL c<|ap e7)<|p (ad fld_228_3 c)<|aa<|aV H8 sc_171 c (fun _=>c) c fun x16 H9=>aa<|Z H9 en_202 fun r17 _ H10=>J c<|p (aj c c)<|p (aj c c)<|p (ar c)<|O c<|cK ((IntKind.i64.wrap (s2.1 + 1)),r17.1,r17.2) H10 (.cons c<|.cons c<|.cons c<|.nil _) .slnil) fun k5 H6=>bi<|M<|J c<|O c<|ai<|Y ⟨s2.1,c,H6⟩
def mZ (a0:Ptr) (K:ByteArray→Hp→Prop):Hp→Prop:=br a0.isNone ( K (⟨#[]⟩:ByteArray)) ( nn a0 fun q7=>ld (q7.1,q7.2 + 0) (cI .i64) fun x9=>cl Tryz.prog sV [(.int .i64 x9)] dP fun r10=>hpv Tryz.prog (do eqGuard .add 9 (.const (.string (⟨#[116,114,97,112,32]⟩:ByteArray))) (.tmp 10) (.string (⟨#[116,114,97,112,32]⟩:ByteArray)) (.string r10); binOp .add 9 (.string (⟨#[116,114,97,112,32]⟩:ByteArray)) (.string r10):Sem Value) dP fun (v11:ByteArray)=>ld (q7.1,q7.2 + 7) cV fun x15=>hpv Tryz.prog (do eqGuard .neq 171 (.tmp 15) (.const Value.nilIface) x15 Value.nilIface; binOp .neq 171 x15 Value.nilIface:Sem Value) aB fun (v16:Bool)=>br v16 ( ld (q7.1,q7.2 + 7) cV fun x21=>cln Tryz.prog (callMethod x21 "Error" #[]) dP fun (v22:ByteArray)=>hpv Tryz.prog (do eqGuard .add 9 (.const (.string (⟨#[58,32]⟩:ByteArray))) (.tmp 22) (.string (⟨#[58,32]⟩:ByteArray)) (.string v22); binOp .add 9 (.string (⟨#[58,32]⟩:ByteArray)) (.string v22):Sem Value) dP fun (v23:ByteArray)=>hpv Tryz.prog (do eqGuard .add 9 (.tmp 17) (.tmp 23) (.string v11) (.string v23); binOp .add 9 (.string v11) (.string v23):Sem Value) dP fun (v24:ByteArray)=>K v24) ( K v11))
theorem rm (a0:Ptr) {K:ByteArray→Hp→Prop} {h:Hp} (H:mZ a0 K h):Ct Tryz.prog iO #[(pv a0)] h fun v h'=>∃ r,v = dP r∧K r h':=aw [(pv a0)] Tryz.func233 c c c fun _=>M<|O c<|ak<|M<|J c<|p (cm Tryz.underlying226 c)<|ac<|av c H (fun k1 H2=>M<|O c<|ai<|Y ⟨(⟨#[]⟩:ByteArray),c,H2⟩) fun k1 H2=>an<|M<|J c<|bE H2 fun q7 e3 H4=>p (aI<|aL c<|ap e3)<|p (ad vC c)<|aa<|aV H4 nE c (fun _=>c) c fun x9 H5=>aa<|Z H5 en_236 fun r10 _ H6=>aa<|aR H6 (gi c c) c fun v11 _ H7=>O c<|ak<|M<|J (aL c<|ap e3)<|p (aI c)<|p (ad fld_228_3 c)<|aa<|aV H7 sc_171 c (fun _=>c) c fun x15 H8=>aa<|aR H8 (gi c c) c fun v16 _ H9=>ac<|av c H9 (fun k10 H11=>ao<|J c<|J (aL c<|ap e3)<|p (aI c)<|p (ad fld_228_3 c)<|aa<|aV H11 sc_171 c (fun _=>c) c fun x21 H12=>aa<|fY H12 (fX (vs:=[]) c c) c fun v22 _ H13=>aa<|aR H13 (gi c c) c fun v23 _ H14=>aa<|aR H14 (gi c c) c fun v24 _ H15=>O c<|M<|J c<|O c<|ai<|Y ⟨v24,c,H15⟩) fun k10 H11=>an<|M<|J c<|O c<|ai<|Y ⟨v11,c,H11⟩
def sh_trap_Trap_Is (a0:Ptr) (a1:Value) (K:Bool→Hp→Prop):Hp→Prop:=hpv Tryz.prog (Instr.typeAssert a1 gl be true) eE fun (v9:Ptr × Bool)=>br v9.2 ( br (!a0.isNone) ( br (!v9.1.isNone) ( nn a0 fun q23=>nn v9.1 fun q27=>ld (q23.1,q23.2 + 0) (cI .i64) fun x25=>ld (q27.1,q27.2 + 0) (cI .i64) fun x29=>K (x25 == x29)) ( K false)) ( K false)) ( K false)
theorem sim_trap_Trap_Is (a0:Ptr) (a1:Value) {K:Bool→Hp→Prop} {h:Hp} (H:sh_trap_Trap_Is a0 a1 K h):Ct Tryz.prog sT #[(pv a0),a1] h fun v h'=>∃ r,v = aB r∧K r h':=aw [(pv a0),a1] Tryz.func234 c c c fun _=>M<|O c<|M<|J c<|aa<|aR H (fV c) c fun v9 _ H1=>J c<|p (aj c c)<|p (aj c c)<|p (ar c)<|O c<|ak<|bm (n:=21) [] ck c .slnil<|U 0 c (ah c)<|U 1 c (ah c)<|oQ H1 (fun k2 H3=>z_n 2 c (D k2) (ve<|ah c)<|z_n 3 c (D k2) (ve<|v_pneT Tryz.underlying226 c)<|U 4 c (aT c k2 c)<|U 5 c (ah c)<|oQ H3 (fun k4 H5=>z_n 6 c (D k4) (ve<|ah c)<|z_n 7 c (D k4) (ve<|v_pneT Tryz.underlying226 c)<|U 8 c (aT c k4 c)<|U 9 c (ah c)<|oQ H5 (fun k6 H7=>z_n 10 c (D k6) (ve<|ah c)<|z_n 14 c (D k6) (ve<|ah c)<|gN H7 fun q23 e8 H9=>z_n 11 c (D k6) (ve<|aI<|aL c<|ap e8)<|z_n 12 c (D k6) (ve<|ad vC c)<|gN H9 fun q27 e10 H11=>z_n 15 c (D k6) (ve<|aI<|aL c<|ap e10)<|z_n 16 c (D k6) (ve<|ad vC c)<|ma (i:=13) (fun _ _ _ _ hh=>hh) H11 c (by kernel_rfl) c c c (D k6) nE c (fun _=>c) c fun x25 H12=>ma (i:=17) (fun _ _ _ _ hh=>hh) H12 c (by kernel_rfl) c c c (D k6) nE c (fun _=>c) c fun x29 H13=>z_n 18 c (D k6) (ve<|bM c c)<|U 19 c (aT c k6 c)<|U 20 c (ar c)<|aU (by kernel_rfl)<|ai<|Y ⟨(x25 == x29),c,H13⟩) fun k6 H7=>I 10 c (aQ k6)<|I 11 c (aQ k6)<|I 12 c (aQ k6)<|I 13 c (aQ k6)<|I 14 c (aQ k6)<|I 15 c (aQ k6)<|I 16 c (aQ k6)<|I 17 c (aQ k6)<|I 18 c (aQ k6)<|U 19 c (aq c k6 c)<|U 20 c (ar c)<|aU (by kernel_rfl)<|ai<|Y ⟨false,c,H7⟩) fun k4 H5=>I 6 c (aQ k4)<|I 7 c (aQ k4)<|U 8 c (aq c k4 c)<|U 9 c (ah c)<|I 10 c c<|I 11 c c<|I 12 c c<|I 13 c c<|I 14 c c<|I 15 c c<|I 16 c c<|I 17 c c<|I 18 c c<|U 19 c (aq c c c)<|U 20 c (ar c)<|aU (by kernel_rfl)<|ai<|Y ⟨false,c,H5⟩) fun k2 H3=>I 2 c (aQ k2)<|I 3 c (aQ k2)<|U 4 c (aq c k2 c)<|U 5 c (ah c)<|I 6 c c<|I 7 c c<|U 8 c (aq c c c)<|U 9 c (ah c)<|I 10 c c<|I 11 c c<|I 12 c c<|I 13 c c<|I 14 c c<|I 15 c c<|I 16 c c<|I 17 c c<|I 18 c c<|U 19 c (aq c c c)<|U 20 c (ar c)<|aU (by kernel_rfl)<|ai<|Y ⟨false,c,H3⟩
def rn (a0:Ptr) (K:Value→Hp→Prop):Hp→Prop:=br a0.isNone ( K Value.nilIface) ( nn a0 fun q6=>ld (q6.1,q6.2 + 7) cV fun x8=>K x8)
theorem sim_trap_Trap_Unwrap (a0:Ptr) {K:Value→Hp→Prop} {h:Hp} (H:rn a0 K h):Ct Tryz.prog nc #[(pv a0)] h fun v h'=>∃ r,v = iq r∧K r h':=aw [(pv a0)] Tryz.func235 c c c fun _=>M<|O c<|ak<|M<|J c<|p (cm Tryz.underlying226 c)<|ac<|av c H (fun k1 H2=>M<|O c<|ai<|Y ⟨Value.nilIface,c,H2⟩) fun k1 H2=>an<|M<|J c<|bE H2 fun q6 e3 H4=>p (aI<|aL c<|ap e3)<|p (ad fld_228_3 c)<|aa<|aV H4 sc_171 c (fun _=>c) c fun x8 H5=>O c<|ai<|Y ⟨x8,c,H5⟩
end Go.Proofs.YtniiiakkdoiaiaaGreatDoor
namespace Go.Proofs.YtniiiakkdoiaiaaGreatDoor
open Go Mb
variable {ET:Nat} {EF:Nat × Nat}
abbrev dq (b:Nat):Value:=.iface be (.pointer (some ⟨b,0,none⟩))
theorem g0:Tryz.prog.globals.size = 4:=by kernel_rfl
theorem g1:typeHandle Tryz.prog be = pv (some (4,be)):=by kernel_rfl
theorem g2:(Tryz.prog.globals[0]?).map (·.type) = some 223:=by kernel_rfl
theorem oneErr:((List.range 325).filter fun t=>Tryz.prog.rowNamed t [101,114,114,111,114]) = [171]:=by kernel_rfl
theorem g4:Tryz.prog.types.size = 325:=by kernel_rfl
abbrev rtV (T:Nat):Value:=.iface rl (.agg #[pv (some (4,T))])
abbrev vl (T c f:Nat):aH:=⟨some (4,T),some (c,0),f⟩
abbrev vlV (T c f:Nat):Value:=.agg (aH.C (vl T c f)).toArray
section
variable (b:Nat) (K:Next→Hp→Prop) (h:Hp)
theorem x7:hp Tryz.prog (callFunc fZ #[dq b]) K h = K (.value (rtV be)) h:=by kernel_rfl
theorem x8:hp Tryz.prog (callFunc cT #[.iface bA (.pointer (some ⟨b,0,none⟩))]) K h = (true = true∧∀ e,h e = none→K (.value (vlV bA e 150)) (dS h e (.cells #[pv (some (b,0))] bA (0,0)))):=by kernel_rfl
theorem x8':hp Tryz.prog (callFunc cT #[dq b]) K h = (true = true∧∀ e,h e = none→K (.value (vlV be e 150)) (dS h e (.cells #[pv (some (b,0))] be (0,0)))):=by kernel_rfl
theorem x10:hp Tryz.prog (callMethod (rtV bA) "Kind" #[]) K h = K (.value (.int .u8 22)) h:=by kernel_rfl
theorem x11:hp Tryz.prog (callMethod (rtV bA) "Elem" #[]) K h = K (.value (rtV be)) h:=by kernel_rfl
theorem x12:hp Tryz.prog (callMethod (rtV be) "Kind" #[]) K h = K (.value (.int .u8 22)) h:=by kernel_rfl
theorem x13:hp Tryz.prog (callMethod (rtV be) "Comparable" #[]) K h = K (.value (.bool true)) h:=by kernel_rfl
theorem x14:hp Tryz.prog (callMethod (rtV be) "AssignableTo" #[rtV be]) K h = K (.value (.bool true)) h:=by kernel_rfl
theorem x15 (c:Nat):hp Tryz.prog (callFunc ir #[vlV bA c 150]) K h = K (.value (rtV bA)) h:=by kernel_rfl
theorem x16 (c:Nat):hp Tryz.prog (callFunc eQ #[vlV bA c 150]) K h =
  hp Tryz.prog (do let r ← Extern.ReflectliteValue.isNil bA ⟨c,0,none⟩ 150 22; pure (.value r)) K h:=by kernel_rfl
theorem x17:hp Tryz.prog (callMethod (rtV be) "Implements" #[rtV gl]) K h = K (.value (.bool true)) h:=by kernel_rfl
theorem x18 (c:Nat):hp Tryz.prog (callFunc ff #[vlV bA c 150]) K h =
  hp Tryz.prog (do let r ← Extern.ReflectliteValue.elem bA ⟨c,0,none⟩ 150 22; pure (.value r)) K h:=by kernel_rfl
theorem x19 (c d:Nat):hp Tryz.prog (callFunc fw #[vlV be c 406,vlV be d 150]) K h =
  hp Tryz.prog (do let r ← (do let v ← loadVar be ⟨d,0,none⟩; storeVar be ⟨c,0,none⟩ v; pure (Value.tuple #[])); pure (.value r)) K h:=by kernel_rfl
theorem y1 (c:Nat) (K:Value→Hp→Prop):hp Tryz.prog (loadVar bA ⟨c,0,none⟩) K h = ∃ v,kU h ⟨c,0,none⟩ = some v∧K v h:=by kernel_rfl
theorem y2 (c:Nat) (K:Value→Hp→Prop):hp Tryz.prog (loadVar be ⟨c,0,none⟩) K h = ∃ v,kU h ⟨c,0,none⟩ = some v∧K v h:=by kernel_rfl
theorem y3 (b:Nat) (K:Value→Hp→Prop):hp Tryz.prog (Extern.ReflectliteValue.mk be ⟨b,0,none⟩ Extern.ReflectliteValue.flagAddr) K h = K (vlV be b 406) h:=by kernel_rfl
theorem y4 (K:Option TypeId→Hp→Prop):hp Tryz.prog (Extern.Rtype.elem? bA) K h = K (some be) h:=by kernel_rfl
theorem y5 (b c:Nat) (K:Unit→Hp→Prop):hp Tryz.prog (storeVar be ⟨c,0,none⟩ (.pointer (some ⟨b,0,none⟩))) K h = hp Tryz.prog (storeCells ⟨c,0,none⟩ [.pointer (some ⟨b,0,none⟩)]) K h:=by kernel_rfl
theorem y6 (K:Value→Hp→Prop) {a b n m:Nat}:hp Tryz.prog (do eqGuard .eql 171 (.tmp n) (.tmp m) (dq a) (dq b); binOp .eql 171 (dq a) (dq b):Sem Value) K h = hp Tryz.prog (do let r ← sameAddr ⟨a,0,none⟩ ⟨b,0,none⟩; pure (.bool r)) K h:=by kernel_rfl
theorem x25 (K:Bool→Hp→Prop) {a b:Nat} {ca cb:List Value} {Ta Tb:Nat} (ha:h a = some (.cells ca.toArray Ta (0,0))) (hb:h b = some (.cells cb.toArray Tb (0,0))) (H:K (a == b) h):hp Tryz.prog (sameAddr ⟨a,0,none⟩ ⟨b,0,none⟩) K h:=by
  unfold sameAddr
  rcases Decidable.em (a = b) with e | e
  · subst e
    rw [if_pos (by simp)]
    have H':K true h:=by simpa using H
    simpa [hp_pure] using H'
  · rw [if_neg (by simpa using e)]
    have fa:∀ (K:Bool→Hp→Prop) (o:Nat),hp Tryz.prog (frozen ⟨a,o,none⟩) K h↔K false h:=fun K o =>
      ⟨fun ⟨o',h1,h2⟩=>by rw [ha] at h1; cases h1; simpa [hp,ug] using h2,fun h2=>⟨_,ha,by simpa [hp,ug] using h2⟩⟩
    have fb:∀ (K:Bool→Hp→Prop) (o:Nat),hp Tryz.prog (frozen ⟨b,o,none⟩) K h↔K false h:=fun K o =>
      ⟨fun ⟨o',h1,h2⟩=>by rw [hb] at h1; cases h1; simpa [hp,ug] using h2,fun h2=>⟨_,hb,by simpa [hp,ug] using h2⟩⟩
    have sa:∀ (K:Option (TypeId × Nat)→Hp→Prop),hp Tryz.prog (shape a) K h↔K (some (Ta,ca.length)) h:=fun K =>
      ⟨fun ⟨o',h1,h2⟩=>by rw [ha] at h1; cases h1; simpa [hp,oshape] using h2,fun h2=>⟨_,ha,by simpa [hp,oshape] using h2⟩⟩
    have sb:∀ (K:Option (TypeId × Nat)→Hp→Prop),hp Tryz.prog (shape b) K h↔K (some (Tb,cb.length)) h:=fun K =>
      ⟨fun ⟨o',h1,h2⟩=>by rw [hb] at h1; cases h1; simpa [hp,oshape] using h2,fun h2=>⟨_,hb,by simpa [hp,oshape] using h2⟩⟩
    have eb:(a == b) = false:=by simpa using e
    rw [eb] at H
    simp [cQ,fa,fb,sa,sb,noView,viewAt,mayBeOne,stringish,hp_pure,H]
end
section
variable {P:Program} {τ:Type} {enc:τ→Value} {K:τ→Hp→Prop} {h:Hp}
theorem eR {m:Sem Value} (r:τ) (e:∀ (K:Value→Hp→Prop) h,hp P m K h = K (enc r) h) (k:K r h):hpv P m enc K h:=⟨by rw [e]; exact ⟨r,rfl,k⟩⟩
theorem tn {m:Sem Next} (r:τ) (e:∀ (K:Next→Hp→Prop) h,hp P m K h = K (.value (enc r)) h) (k:K r h):cln P m enc K h:=⟨by rw [e]; exact .inl ⟨r,rfl,k⟩⟩
theorem cln_en {m:Sem Next} {f:FuncId} {vs:List Value} (e:∀ (K:Next→Hp→Prop) h,hp P m K h = K (.enter f vs.toArray) h) (k:cl P f vs enc K h):cln P m enc K h:=⟨by rw [e]; exact .inr ⟨f,_,rfl,k⟩⟩
end
abbrev etB (ET:Nat) (EF:Nat × Nat):As:=obj 0 (.cells #[rtV gl] ET EF)
abbrev trB (b:Nat) (t:bW):As:=blk b nu (bW.C t)
theorem en_0 (b n:Nat) (K:Value→Hp→Prop) (h:Hp):hp Tryz.prog (do eqGuard .eql 171 (.tmp n) (.const Value.nilIface) (dq b) Value.nilIface; binOp .eql 171 (dq b) Value.nilIface:Sem Value) K h = K (.bool false) h:=by kernel_rfl
theorem en_00 (n:Nat) (K:Value→Hp→Prop) (h:Hp):hp Tryz.prog (do eqGuard .eql 171 (.tmp n) (.const Value.nilIface) Value.nilIface Value.nilIface; binOp .eql 171 Value.nilIface Value.nilIface:Sem Value) K h = K (.bool true) h:=by kernel_rfl
theorem en_1 (b n:Nat) (K:Value→Hp→Prop) (h:Hp):hp Tryz.prog (do eqGuard .eql 20 (.tmp n) (.const Value.nilIface) (.iface bA (.pointer (some ⟨b,0,none⟩))) Value.nilIface; binOp .eql 20 (.iface bA (.pointer (some ⟨b,0,none⟩))) Value.nilIface:Sem Value) K h = K (.bool false) h:=by kernel_rfl
theorem sp_As_nil (v:Value):Sp Tryz.prog um [Value.nilIface,v] aB [] (fun r=>pa_ (r = false) []):=by
  intro h st
  refine sim_errors_As _ _ ?_
  unfold wK
  exact eR true (en_00 _) (dI rfl (aW rfl st))
section
variable {h:Hp} {b c d:Nat}
theorem c22 {K:Bool→Hp→Prop} (e:kU h ⟨c,0,none⟩ = some (.pointer (some ⟨b,0,none⟩))) (H:K false h):cln Tryz.prog (callFunc eQ #[vlV bA c 150]) aB K h:=by
  constructor
  rw [x16,cQ]
  unfold Extern.ReflectliteValue.isNil
  rw [if_neg (by decide)]
  rw [cQ,y1]; exact ⟨_,e,.inl ⟨false,rfl,H⟩⟩
theorem c23 {K:aH→Hp→Prop} (e:kU h ⟨c,0,none⟩ = some (.pointer (some ⟨b,0,none⟩))) (H:K (vl be b 406) h):cln Tryz.prog (callFunc ff #[vlV bA c 150]) fA K h:=by
  constructor
  rw [x18,cQ]
  unfold Extern.ReflectliteValue.elem
  rw [if_neg (by decide),cQ,y1]
  refine ⟨_,e,?_⟩
  rw [cQ,y4]
  show hp _ (Extern.ReflectliteValue.mk _ _ _) _ h
  rw [y3]; exact .inl ⟨_,rfl,H⟩
theorem c24 {K:Unit→Hp→Prop} (e:kU h ⟨d,0,none⟩ = some (.pointer (some ⟨b,0,none⟩))) (H:hp Tryz.prog (storeCells ⟨c,0,none⟩ [.pointer (some ⟨b,0,none⟩)]) (fun _=>K ()) h):cln Tryz.prog (callFunc fw #[vlV be c 406,vlV be d 150]) R_ K h:=by
  constructor
  rw [x19,cQ,cQ,y2]; refine ⟨_,e,?_⟩
  rw [cQ,y5]; exact hp_mono _ (fun _ _ k=>.inl ⟨(),rfl,k⟩) _ H
theorem c8 {K:aH→Hp→Prop} (H:∀ e,h e = none→K (vl bA e 150) (dS h e (.cells #[pv (some (b,0))] bA (0,0)))):cln Tryz.prog (callFunc cT #[.iface bA (.pointer (some ⟨b,0,none⟩))]) fA K h:=by
  constructor
  rw [x8]
  exact ⟨rfl,fun e he=>.inl ⟨_,rfl,H e he⟩⟩
theorem c8' {K:aH→Hp→Prop} (H:∀ e,h e = none→K (vl be e 150) (dS h e (.cells #[pv (some (b,0))] be (0,0)))):cln Tryz.prog (callFunc cT #[dq b]) fA K h:=by
  constructor
  rw [x8']
  exact ⟨rfl,fun e he=>.inl ⟨_,rfl,H e he⟩⟩
end
theorem blk_cell {l:List As} {h:Hp} {i b:Nat} {T:TypeId} {c:List Value} {v:Value} (hi:l[i]? = some (blk b T c)) (hv:c[0]? = some v) (s:aG l h):kU h ⟨b,0,none⟩ = some v:=by
  obtain ⟨g1,a1,sub1⟩:=dV hi s
  have:=sub1 _ _ a1
  unfold kU
  rw [this]
  simpa using hv
theorem sp_as (b c d:Nat) (p:Ptr):Sp Tryz.prog ul [dq b,.iface bA (.pointer (some ⟨c,0,none⟩)),vlV bA d 150,rtV be] aB
    [blk c be [pv p],blk d bA [pv (some (c,0))]] (fun r=>pa_ (r = true) [blk c be [pv (some (b,0))]]):=by
  intro h st
  refine sim_errors_as _ _ _ _ ?_
  unfold sh_errors_as
  refine ⟨fun s h=>s = dq b∧aG [blk c be [pv p],blk d bA [pv (some (c,0))]] h,fun _ _=>0,⟨rfl,st⟩,?_⟩
  rintro _ h1 ⟨rfl,s1⟩
  unfold xk
  refine tn (rtV be) (fun K h=>x7 b K h) ?_
  refine tn true (fun K h=>x14 K h) (dI rfl ?_)
  refine c23 (blk_cell (i:=1) rfl rfl s1) ?_
  refine c8' fun e he=>?_
  have s2:aG (blk e be [pv (some (b,0))]::_) _:=new_s (o:=.cells #[pv (some (b,0))] be (0,0)) s1 he
  refine c24 (blk_cell (i:=0) (T:=be) (c:=[pv (some (b,0))]) rfl rfl s2) ?_
  obtain ⟨g2,a2,sub2⟩:=dV (i:=1) (A:=blk c be [pv p]) rfl s2
  refine hp_storeCells _ 0 0 [pv p] _ (sub2 _ _ a2) (by simp) rfl ?_
  have s3:aG (_::blk c be [pv (some (b,0))]::_) _:=obj_set (o':=.cells #[pv (some (b,0))] be (0,0)) (i:=1) s2 rfl
  exact aW rfl (bZ (l:=[_,_]) (bb [0,1] s3 rfl))
theorem sp_As (b c:Nat) (p:Ptr):Sp Tryz.prog um [dq b,.iface bA (.pointer (some ⟨c,0,none⟩))] aB
    [(etB ET EF),blk c be [pv p]] (fun r=>pa_ (r = true) [(etB ET EF),blk c be [pv (some (b,0))]]):=by
  intro h st
  refine sim_errors_As _ _ ?_
  unfold wK
  refine eR false (en_0 b _) (dr rfl ?_)
  refine eR false (en_1 c _) (dr rfl ?_)
  unfold xn
  refine c8 fun e he=>?_
  have s2:aG (blk e bA [pv (some (c,0))]::_) _:=new_s (o:=.cells #[pv (some (c,0))] bA (0,0)) st he
  refine tn (rtV bA) (fun K h=>x15 K h e) ?_
  refine tn 22 (fun K h=>x10 K h) (dI rfl ?_)
  refine c22 (blk_cell (i:=0) (T:=bA) (c:=[pv (some (c,0))]) rfl rfl s2) (dr rfl ?_)
  unfold xm
  refine tn (rtV be) (fun K h=>x11 K h) ?_
  refine tn 22 (fun K h=>x12 K h) (dI rfl ?_)
  obtain ⟨g3,a3,sub3⟩:=dV (i:=1) (A:=etB ET EF) rfl s2
  refine ⟨rtV gl,⟨_,_,_,sub3 _ _ a3,fun i v hv=>?_⟩,?_⟩
  · rcases i with _ | i <;> first | exact hv | simp [cV] at hv
  refine tn true (fun K h=>x17 K h) (dr rfl ?_)
  unfold sc
  refine cN [2,0,1] (rest:=[(etB ET EF)]) (sp_as b c e p) s2 rfl fun r h' s3=>?_
  obtain ⟨rfl,s4⟩:=bq.1 s3
  exact aW rfl (bb [1,0] s4 rfl)
abbrev firstOf (b:Nat):Ptr × Bool:=(some (b,0),true)
theorem sp_First (b:Nat):Sp Tryz.prog jT [dq b] eE [(etB ET EF)] (fun r=>pa_ (r = firstOf b) [(etB ET EF)]):=by
  intro h st
  refine sim_trap_First _ ?_
  unfold uH
  refine oY st fun c h1 s1=>?_
  refine eR (.iface bA (.pointer (some ⟨c,0,none⟩))) (fun K h=>by kernel_rfl) ?_
  refine cN [1,0] (rest:=[]) (sp_As b c none) s1 rfl fun r h' s2=>?_
  obtain ⟨rfl,s3⟩:=bq.1 s2
  refine dI rfl ?_
  refine bk (some (b,0)) s3 (i:=1) rfl rfl rfl ?_
  unfold mB
  refine dr rfl ?_
  refine bk (some (b,0)) s3 (i:=1) rfl rfl rfl ?_
  exact aW rfl (bZ (l:=[_]) (bb [1] s3 rfl))
theorem sp_First_nil:Sp Tryz.prog jT [Value.nilIface] eE [] (fun r=>pa_ (r = (none,false)) []):=by
  intro h st
  refine sim_trap_First _ ?_
  unfold uH
  refine oY st fun c h1 s1=>?_
  refine eR (.iface bA (.pointer (some ⟨c,0,none⟩))) (fun K h=>by kernel_rfl) ?_
  refine tA (sp_As_nil _) s1 fun r h' hr s2=>?_
  subst hr
  refine dr rfl ?_
  unfold mB
  exact dI rfl (aW rfl trivial)
theorem sp_Of (n:Int) (hn:n ≠ 0):Sp Tryz.prog ku [.int .i64 n] iq [] (fun r=>ex fun b=>pa_ (r = dq b) [trB b ⟨n,-1,⟨0,0,0,0,0⟩,.nilIface⟩]):=by
  intro h st
  refine sim_trap_Of _ ?_
  unfold sh_trap_Of
  refine dr (by simpa using hn) ?_
  refine oY st fun b h1 s1=>?_
  refine eR (dq b) (fun K h=>by kernel_rfl) ?_
  exact ⟨b,aW rfl s1⟩
theorem sp_Of0:Sp Tryz.prog ku [.int .i64 0] iq [] (fun r=>pa_ (r = Value.nilIface) []):=by
  intro h st
  refine sim_trap_Of _ ?_
  unfold sh_trap_Of
  exact dI rfl (aW rfl st)
theorem sp_Code (b:Nat) (t:bW):Sp Tryz.prog uj [dq b] bc [(etB ET EF),trB b t] (fun r=>pa_ (r = t.fCode) [(etB ET EF),trB b t]):=by
  intro h st
  refine sim_trap_Code _ ?_
  unfold sh_trap_Code
  refine eR false (en_0 b _) (dr rfl ?_)
  refine bO (i:=0) (sp_First b) rfl st fun r h' hr s2=>?_
  subst hr
  refine dI rfl (cD ?_)
  refine bk t.fCode s2 (i:=1) rfl rfl rfl ?_
  exact aW rfl s2
theorem sp_In (env:Int) (c:ae) (b:Nat) (t:bW):Sp Tryz.prog n_trap_In [.int .i64 env,.agg (ae.C c).toArray,dq b] iq [(etB ET EF),trB b t]
    (fun r=>ex fun e=>pa_ (r = dq e) [trB e ⟨t.fCode,env,c,dq b⟩,(etB ET EF),trB b t]):=by
  intro h st
  refine sim_trap_In _ _ _ ?_
  unfold sh_trap_In
  refine eR false (en_0 b _) (dr rfl ?_)
  refine cN [] (rest:=[]) (sp_Code b t) st (List.append_nil _).symm fun r h' s2=>?_
  obtain ⟨rfl,s3⟩:=bq.1 s2
  refine eR ⟨t.fCode,env,c,dq b⟩ (fun K h=>by kernel_rfl) ?_
  refine oY s3 fun e h1 s4=>?_
  refine eR (dq e) (fun K h=>by kernel_rfl) ?_
  exact ⟨e,aW rfl s4⟩
theorem sp_Depth2 (b e:Nat) (t u:bW) (ht:t.fErr = dq e) (hu:u.fErr = Value.nilIface):Sp Tryz.prog wT [dq b] eA [(etB ET EF),trB b t,trB e u] (fun r=>pa_ (r = 2) [(etB ET EF),trB b t,trB e u]):=by
  intro h st
  refine sim_trap_Depth _ ?_
  unfold sh_trap_Depth
  refine bO (i:=0) (sp_First b) rfl st fun r h' hr s2=>?_
  subst hr
  refine ⟨fun s h=>(s = (0,some (b,0),true)∨s = (1,some (e,0),true)∨s = (2,none,false))∧aG [(etB ET EF),trB b t,trB e u] h,fun s _=>3 - s.1.toNat,⟨.inl rfl,s2⟩,?_⟩
  rintro s h1 ⟨rfl | rfl | rfl,s3⟩
  · unfold mC
    refine dI rfl (cD ?_)
    refine bk t.fErr s3 (i:=1) rfl rfl rfl ?_
    rw [ht]
    refine bO (i:=0) (sp_First e) rfl s3 fun r h' hr s4=>?_
    subst hr
    exact ⟨⟨.inr (.inl rfl),s4⟩,Nat.le_of_ble_eq_true rfl⟩
  · unfold mC
    refine dI rfl (cD ?_)
    refine bk u.fErr s3 (i:=2) rfl rfl rfl ?_
    rw [hu]
    refine tA sp_First_nil s3 fun r h' hr s4=>?_
    subst hr
    exact ⟨⟨.inr (.inr rfl),s4⟩,Nat.le_of_ble_eq_true rfl⟩
  · unfold mC
    exact dr rfl (aW rfl s3)
end Go.Proofs.YtniiiakkdoiaiaaGreatDoor
namespace Go.Proofs.YtniiiakkdoiaiaaGreatDoor
open Go Mb
set_option linter.unusedVariables false
def sh_strconv_Itoa (a0:Int) (K:ByteArray→Hp→Prop):Hp→Prop:=cl Tryz.prog jx [(.int .i64 a0)] dP fun r4=>K r4
theorem sim_strconv_Itoa (a0:Int) {K:ByteArray→Hp→Prop} {h:Hp} (H:sh_strconv_Itoa a0 K h):Ct Tryz.prog sV #[(.int .i64 a0)] h fun v h'=>∃ r,v = dP r∧K r h':=aw [(.int .i64 a0)] Tryz.func236 c c c fun _=>M<|O c<|M<|J c<|aa<|Z H en_237 fun r4 _ H1=>O c<|ai<|Y ⟨r4,c,H1⟩
end Go.Proofs.YtniiiakkdoiaiaaGreatDoor
namespace Go.Proofs.YtniiiakkdoiaiaaGreatDoor
open Go Mb
set_option linter.unusedVariables false
def mf (a0:Int) (K:ByteArray→Hp→Prop):Hp→Prop:=br (decide (a0 < 10)) ( hpv Tryz.prog (Instr.sliceAt uQ (.string str_73df774b) (some (.int .i64 a0)) (some (.int .i64 (IntKind.i64.wrap (a0 + 1)))) none) dP fun (v8:ByteArray)=>K v8) ( hpv Tryz.prog (Instr.sliceAt uQ (.string str_e9752c08) (some (.int .i64 (IntKind.i64.wrap (a0 * 2)))) (some (.int .i64 (IntKind.i64.wrap ((IntKind.i64.wrap (a0 * 2)) + 2)))) none) dP fun (v14:ByteArray)=>K v14)
theorem sE (a0:Int) {K:ByteArray→Hp→Prop} {h:Hp} (H:mf a0 K h):Ct Tryz.prog jg #[(.int .i64 a0)] h fun v h'=>∃ r,v = dP r∧K r h':=aw [(.int .i64 a0)] Tryz.func239 c c c fun _=>M<|O c<|ak<|M<|J c<|p (ct c c)<|ac<|av c H (fun k1 H2=>M<|J c<|J c<|p (bp c c)<|aa<|aR H2 (eZ c c c c c) c fun v8 _ H3=>O c<|ai<|Y ⟨v8,c,H3⟩) fun k1 H2=>an<|M<|J c<|p (v_mul c c)<|J c<|p (v_mul c c)<|p (bp c c)<|aa<|aR H2 (eZ c c c c c) c fun v14 _ H4=>O c<|ai<|Y ⟨v14,c,H4⟩
def gb (a0:Int) (K:ByteArray→Hp→Prop) (b5:Nat) (s9:Int):Hp→Prop:=cl Tryz.prog rc [(.int .u64 s9)] eA fun r27=>hpv Tryz.prog (Instr.sliceAt wd (.pointer (some ⟨b5,0,none⟩)) (some (.int .i64 1)) (some (.int .i64 (IntKind.i64.wrap (1 + r27)))) none) R_Suint8 fun (v30:Sl)=>cl Tryz.prog oZ [(sv v30),(.int .u64 s9)] R_ fun (_:Unit)=>br (decide (a0 < 0)) ( st (b5,0) [.int .u8 45]<|hpv Tryz.prog (Instr.sliceAt wd (.pointer (some ⟨b5,0,none⟩)) none (some (.int .i64 (IntKind.i64.wrap (1 + r27)))) none) R_Suint8 fun (v38:Sl)=>hpv Tryz.prog (convert 303 9 (sv v38)) dP fun (v39:ByteArray)=>K v39) ( hpv Tryz.prog (Instr.sliceAt wd (.pointer (some ⟨b5,0,none⟩)) (some (.int .i64 1)) (some (.int .i64 (IntKind.i64.wrap (1 + r27)))) none) R_Suint8 fun (v42:Sl)=>hpv Tryz.prog (convert 303 9 (sv v42)) dP fun (v43:ByteArray)=>K v43)
def jM (a0:Int) (a1:Int) (K:ByteArray→Hp→Prop):Hp→Prop:=br (a1 == 10) ( br ((decide (0 ≤ a0)) && (decide (a0 < 100))) ( cl Tryz.prog jg [(.int .i64 a0)] dP fun r19=>K r19) ( nw wd [.int .u8 0,.int .u8 0,.int .u8 0,.int .u8 0,.int .u8 0,.int .u8 0,.int .u8 0,.int .u8 0,.int .u8 0,.int .u8 0,.int .u8 0,.int .u8 0,.int .u8 0,.int .u8 0,.int .u8 0,.int .u8 0,.int .u8 0,.int .u8 0,.int .u8 0,.int .u8 0,.int .u8 0,.int .u8 0,.int .u8 0,.int .u8 0] fun b5=>br (decide (a0 < 0)) ( gb a0 K b5 (IntKind.u64.wrap (0 - (IntKind.u64.wrap a0)))) ( gb a0 K b5 (IntKind.u64.wrap a0)))) ( cl Tryz.prog qK [(sv (⟨none,0,0,none⟩:Sl)),(.int .u64 (IntKind.u64.wrap a0)),(.int .i64 a1),(.bool (decide (a0 < 0))),(.bool false)] R_Suint8_string fun r50=>K r50.2)
theorem pP (a0:Int) (a1:Int) {K:ByteArray→Hp→Prop} {h:Hp} (H:jM a0 a1 K h):Ct Tryz.prog gy #[(.int .i64 a0),(.int .i64 a1)] h fun v h'=>∃ r,v = dP r∧K r h':=aw [(.int .i64 a0),(.int .i64 a1)] Tryz.func238 c c c fun _=>M<|O c<|ak<|M<|J c<|p (bM c c)<|ac<|av c H (fun k1 H2=>ak<|M<|J c<|p (v_le c c)<|J c<|V c c (ay _) (fun g3=>wv<|ah c)<|V c c (ay _) (fun g4=>wv<|ct (aD c g4) c)<|p (bP c c)<|ac<|av c H2 (fun k5 H6=>M<|J c<|aa<|Z H6 en_239 fun r19 _ H7=>O c<|ai<|Y ⟨r19,c,H7⟩) fun k5 H6=>an<|M<|aa<|to_alloc zero_300 c c H6 fun b5 _ H8=>ac<|M<|J c<|p (dT ⟨_,Tryz.underlying2⟩ Tryz.underlying25 c)<|O c<|eo (gb a0 K b5) (fun s9=>[(0,(.int .i64 a0)),(5,(.pointer (some ⟨b5,0,none⟩))),(6,(.int .u64 s9))]) (fun s9=>[]) (M<|J c<|p (ct c c)<|ac<|av c H8 (fun k21 H22=>ao<|J c<|p (v_neg c)<|O c<|cE (IntKind.u64.wrap (0 - (IntKind.u64.wrap a0))) H22 (.cons c<|.cons c<|.cons c<|.nil _) .slnil) fun k21 H22=>an<|cE (IntKind.u64.wrap a0) H22 (.cons c<|.cons c<|.cons c<|.nil _) .slnil) fun s9 _ H10=>M<|J c<|aa<|Z H10 en_240 fun r27 _ H11=>O c<|M<|J c<|p (bp c c)<|aa<|aR H11 (eZ c c c c c) c fun v30 _ H12=>J c<|aa<|Z H12 en_241 fun r32 _ H13=>ac<|ak<|M<|J c<|p (ct c c)<|ac<|av c H13 (fun k14 H15=>M<|p (bz arr_300 c c (by decide))<|aa<|dw inf_5 c c c c c H15 fun _ H16=>ac<|M<|J c<|p (bp c c)<|aa<|aR H16 (eZ c c c c c) c fun v38 _ H17=>aa<|aR H17 (x_convert c) c fun v39 _ H18=>O c<|ai<|Y ⟨v39,c,H18⟩) fun k14 H15=>an<|M<|J c<|p (bp c c)<|aa<|aR H15 (eZ c c c c c) c fun v42 _ H19=>aa<|aR H19 (x_convert c) c fun v43 _ H20=>O c<|ai<|Y ⟨v43,c,H20⟩) fun k1 H2=>an<|M<|J c<|p (dT ⟨_,Tryz.underlying2⟩ Tryz.underlying25 c)<|J c<|J c<|p (ct c c)<|aa<|Z H2 en_242 fun r50 _ H23=>J c<|p (aj c c)<|p (aj c c)<|p (ar c)<|O c<|M<|J c<|O c<|ai<|Y ⟨r50.2,c,H23⟩
def mK (a0:Int) (K:ByteArray→Hp→Prop):Hp→Prop:=cl Tryz.prog gy [(.int .i64 a0),(.int .i64 10)] dP fun r4=>K r4
theorem tz (a0:Int) {K:ByteArray→Hp→Prop} {h:Hp} (H:mK a0 K h):Ct Tryz.prog jx #[(.int .i64 a0)] h fun v h'=>∃ r,v = dP r∧K r h':=aw [(.int .i64 a0)] Tryz.func237 c c c fun _=>M<|O c<|M<|J c<|aa<|Z H en_238 fun r4 _ H1=>O c<|ai<|Y ⟨r4,c,H1⟩
end Go.Proofs.YtniiiakkdoiaiaaGreatDoor
namespace Go.Proofs.YtniiiakkdoiaiaaGreatDoor
open Go Mb
set_option linter.unusedVariables false
def pt (K:Bool→Hp→Prop):Hp→Prop:=cl Tryz.prog ku [(.int .i64 3)] iq fun r5=>cl Tryz.prog n_trap_In [(.int .i64 2),(.agg (ae.C (⟨1,2,0,0,0⟩:ae)).toArray),r5] iq fun r6=>cl Tryz.prog jT [r6] eE fun r9=>hpv Tryz.prog (do eqGuard .eql 171 (.tmp 12) (.const Value.nilIface) r6 Value.nilIface; binOp .eql 171 r6 Value.nilIface:Sem Value) aB fun (v13:Bool)=>br (v13 || r9.1.isNone) ( K false) ( br r9.2 ( nn r9.1 fun q21=>ld (q21.1,q21.2 + 1) (cI .i64) fun x23=>br (x23 == 2) ( ld (q21.1,q21.2 + 2) ae.C fun x30=>br (ae.eqb x30 (⟨1,2,0,0,0⟩:ae)) ( ld (q21.1,q21.2 + 0) (cI .i64) fun x38=>br (x38 == 3) ( cl Tryz.prog uj [r6] bc fun r43=>br (r43 == 3) ( cl Tryz.prog wT [r6] eA fun r48=>br (r48 == 2) ( cl Tryz.prog ku [(.int .i64 3)] iq fun r53=>cl Tryz.prog nH [r6,r53] aB fun r54=>br r54 ( cl Tryz.prog ku [(.int .i64 4)] iq fun r58=>cl Tryz.prog nH [r6,r58] aB fun r59=>br (!r59) ( cln Tryz.prog (callMethod r6 "Error" #[]) dP fun (v64:ByteArray)=>hpv Tryz.prog (do eqGuard .eql 9 (.tmp 64) (.const (.string nZ)) (.string v64) (.string nZ); binOp .eql 9 (.string v64) (.string nZ):Sem Value) aB fun (v65:Bool)=>br v65 ( cl Tryz.prog ku [(.int .i64 0)] iq fun r68=>hpv Tryz.prog (do eqGuard .eql 171 (.tmp 68) (.const Value.nilIface) r68 Value.nilIface; binOp .eql 171 r68 Value.nilIface:Sem Value) aB fun (v69:Bool)=>K v69) ( K false)) ( K false)) ( K false)) ( K false)) ( K false)) ( K false)) ( K false)) ( K false)) ( K false))
theorem wz {K:Bool→Hp→Prop} {h:Hp} (H:pt K h):Ct Tryz.prog lp #[] h fun v h'=>∃ r,v = aB r∧K r h':=aw [] Tryz.func203 c c c fun _=>M<|O c<|M<|p (aZ c<|iZ 1 2)<|aa<|Z H xq fun r5 _ H1=>aa<|Z H1 en_168 fun r6 _ H2=>O c<|M<|J c<|aa<|Z H2 en_202 fun r9 _ H3=>J c<|p (aj c c)<|p (aj c c)<|p (ar c)<|O c<|ak<|M<|J c<|aa<|aR H3 (gi c c) c fun v13 _ H4=>J c<|V c c (aM _) (fun g5=>wv<|ah c)<|V c c (aM _) (fun g6=>wv<|cm Tryz.underlying226<|aD c g6)<|p (dp c c)<|ac<|av c H4 (fun k7 H8=>M<|O c<|ai<|Y ⟨false,c,H8⟩) fun k7 H8=>an<|M<|J c<|J c<|V c c (ay _) (fun g9=>wv<|ah c)<|bT H8 (fun k11 H12=>bE H12 fun q21 e13 H14=>F (D k11)<|R (aI<|aL (aD c k11)<|ap e13)<|F (D k11)<|R (ad fld_228_1 c)<|F (D k11)<|aV H14 aY c (fun _=>c) c fun x23 H15=>F (D k11)<|R (bM c c)<|p (aT c k11 c)<|J c<|V c c (ay _) (fun g16=>wv<|ah<|aL c<|ap e13)<|V c c (ay _) (fun g17=>wv<|aI<|aD c g17)<|V c c (ay _) (fun g18=>wv<|ad fld_228_2<|aD c g18)<|bT H15 (fun k20 H21=>F (D k20)<|gJ H21 fh (aD c k20) (fun _=>c) c fun x30 H22=>F (D k20)<|R (aZ c<|iZ 1 2)<|F (D k20)<|R (v_eqA eqg_27 (eqr_27 9998 _ _) c c)<|p (aT c k20 c)<|J c<|V c c (ay _) (fun g23=>wv<|ah<|aL c<|ap e13)<|V c c (ay _) (fun g24=>wv<|aI<|aD c g24)<|V c c (ay _) (fun g25=>wv<|ad vC<|aD c g25)<|bT H22 (fun k27 H28=>F (D k27)<|aV H28 nE (aD c k27) (fun _=>c) c fun x38 H29=>F (D k27)<|R (bM c c)<|p (aT c k27 c)<|J c<|V c c (ay _) (fun g30=>wv<|ah c)<|bT H29 (fun k32 H33=>F (D k32)<|gj H33 en_189 (aS (aD c k32) bS) c fun r43 _ H34=>F (D k32)<|R (bM c c)<|p (aT c k32 c)<|J c<|V c c (ay _) (fun g35=>wv<|ah c)<|bT H34 (fun k37 H38=>F (D k37)<|gj H38 en_208 (aS (aD c k37) bS) c fun r48 _ H39=>F (D k37)<|R (bM c c)<|p (aT c k37 c)<|J c<|V c c (ay _) (fun g40=>wv<|ah c)<|bT H39 (fun k42 H43=>F (D k42)<|Z H43 xq fun r53 _ H44=>F (D k42)<|gj H44 en_133 (aS (aD c k42)<|aS c bS) c fun r54 _ H45=>p (aT c k42 c)<|J c<|V c c (ay _) (fun g46=>wv<|ah c)<|bT H45 (fun k48 H49=>F (D k48)<|Z H49 xq fun r58 _ H50=>F (D k48)<|gj H50 en_133 (aS (aD c k48)<|aS c bS) c fun r59 _ H51=>F (D k48)<|R (cn c)<|p (aT c k48 c)<|J c<|V c c (ay _) (fun g52=>wv<|ah c)<|bT H51 (fun k54 H55=>F (D k54)<|fY H55 (fX (vs:=[]) (aD c k54) c) c fun v64 _ H56=>F (D k54)<|aR H56 (gi c c) c fun v65 _ H57=>p (aT c k54 c)<|J c<|bT H57 (fun k59 H60=>F (D k59)<|Z H60 xq fun r68 _ H61=>F (D k59)<|aR H61 (gi c c) c fun v69 _ H62=>p (aT c k59 c)<|O c<|ai<|Y ⟨v69,c,H62⟩) fun k59 H60=>W (aQ k59)<|W (aQ k59)<|p (aq c k59 c)<|O c<|ai<|Y ⟨false,c,H60⟩) fun k54 H55=>W (aQ k54)<|W (aQ k54)<|p (aq c k54 c)<|J c<|W c<|W c<|p (aq c c c)<|O c<|ai<|Y ⟨false,c,H55⟩) fun k48 H49=>W (aQ k48)<|W (aQ k48)<|W (aQ k48)<|p (aq c k48 c)<|J c<|W c<|W c<|W c<|p (aq c c c)<|J c<|W c<|W c<|p (aq c c c)<|O c<|ai<|Y ⟨false,c,H49⟩) fun k42 H43=>W (aQ k42)<|W (aQ k42)<|p (aq c k42 c)<|J c<|W c<|W c<|W c<|W c<|p (aq c c c)<|J c<|W c<|W c<|W c<|p (aq c c c)<|J c<|W c<|W c<|p (aq c c c)<|O c<|ai<|Y ⟨false,c,H43⟩) fun k37 H38=>W (aQ k37)<|W (aQ k37)<|p (aq c k37 c)<|J c<|W c<|W c<|W c<|p (aq c c c)<|J c<|W c<|W c<|W c<|W c<|p (aq c c c)<|J c<|W c<|W c<|W c<|p (aq c c c)<|J c<|W c<|W c<|p (aq c c c)<|O c<|ai<|Y ⟨false,c,H38⟩) fun k32 H33=>W (aQ k32)<|W (aQ k32)<|p (aq c k32 c)<|J c<|W c<|W c<|W c<|p (aq c c c)<|J c<|W c<|W c<|W c<|p (aq c c c)<|J c<|W c<|W c<|W c<|W c<|p (aq c c c)<|J c<|W c<|W c<|W c<|p (aq c c c)<|J c<|W c<|W c<|p (aq c c c)<|O c<|ai<|Y ⟨false,c,H33⟩) fun k27 H28=>W (aQ k27)<|W (aQ k27)<|p (aq c k27 c)<|J c<|W c<|W c<|W c<|p (aq c c c)<|J c<|W c<|W c<|W c<|p (aq c c c)<|J c<|W c<|W c<|W c<|p (aq c c c)<|J c<|W c<|W c<|W c<|W c<|p (aq c c c)<|J c<|W c<|W c<|W c<|p (aq c c c)<|J c<|W c<|W c<|p (aq c c c)<|O c<|ai<|Y ⟨false,c,H28⟩) fun k20 H21=>W (aQ k20)<|W (aQ k20)<|W (aQ k20)<|p (aq c k20 c)<|J c<|W c<|W c<|W c<|W c<|W c<|p (aq c c c)<|J c<|W c<|W c<|W c<|p (aq c c c)<|J c<|W c<|W c<|W c<|p (aq c c c)<|J c<|W c<|W c<|W c<|p (aq c c c)<|J c<|W c<|W c<|W c<|W c<|p (aq c c c)<|J c<|W c<|W c<|W c<|p (aq c c c)<|J c<|W c<|W c<|p (aq c c c)<|O c<|ai<|Y ⟨false,c,H21⟩) fun k11 H12=>W (aQ k11)<|W (aQ k11)<|W (aQ k11)<|W (aQ k11)<|p (aq c k11 c)<|J c<|W c<|W c<|W c<|W c<|W c<|W c<|p (aq c c c)<|J c<|W c<|W c<|W c<|W c<|W c<|p (aq c c c)<|J c<|W c<|W c<|W c<|p (aq c c c)<|J c<|W c<|W c<|W c<|p (aq c c c)<|J c<|W c<|W c<|W c<|p (aq c c c)<|J c<|W c<|W c<|W c<|W c<|p (aq c c c)<|J c<|W c<|W c<|W c<|p (aq c c c)<|J c<|W c<|W c<|p (aq c c c)<|O c<|ai<|Y ⟨false,c,H12⟩
def pu (K:Bool→Hp→Prop):Hp→Prop:=cl Tryz.prog lp [] aB fun r1=>K r1
theorem wA {K:Bool→Hp→Prop} {h:Hp} (H:pu K h):Ct Tryz.prog lq #[] h fun v h'=>∃ r,v = aB r∧K r h':=aw [] Tryz.func194 c c c fun _=>M<|O c<|M<|aa<|Z H en_203 fun r1 _ H1=>O c<|ai<|Y ⟨r1,c,H1⟩
end Go.Proofs.YtniiiakkdoiaiaaGreatDoor
namespace Go.Proofs.YtniiiakkdoiaiaaGreatDoor
open Go Mb
variable {ET:Nat} {EF:Nat × Nat}
abbrev s3_:ByteArray:=⟨#[51]⟩
theorem sp_small3:Sp Tryz.prog jg [.int .i64 3] dP [] (fun r=>pa_ (r = s3_) []):=by
  intro h st
  refine sE _ ?_
  unfold mf
  exact dI rfl (eR s3_ (fun K h=>by kernel_rfl) (aW rfl st))
theorem sp_FormatInt3:Sp Tryz.prog gy [.int .i64 3,.int .i64 10] dP [] (fun r=>pa_ (r = s3_) []):=by
  intro h st
  refine pP _ _ ?_
  unfold jM
  refine dI rfl (dI rfl (tA sp_small3 st fun r h' hr s2=>?_))
  exact aW hr s2
theorem sp_Itoa3':Sp Tryz.prog jx [.int .i64 3] dP [] (fun r=>pa_ (r = s3_) []):=by
  intro h st
  refine tz _ ?_
  unfold mK
  exact tA sp_FormatInt3 st fun r h' hr s2=>aW hr s2
theorem sp_Itoa3:Sp Tryz.prog sV [.int .i64 3] dP [] (fun r=>pa_ (r = s3_) []):=by
  intro h st
  refine sim_strconv_Itoa _ ?_
  unfold sh_strconv_Itoa
  exact tA sp_Itoa3' st fun r h' hr s2=>aW hr s2
abbrev t3_:ByteArray:=⟨#[116,114,97,112,32,51]⟩
theorem sp_Error1 (b:Nat) (t:bW) (hc:t.fCode = 3) (ht:t.fErr = Value.nilIface):Sp Tryz.prog iO [pv (some (b,0))] dP [trB b t] (fun r=>pa_ (r = t3_) [trB b t]):=by
  intro h st
  refine rm _ ?_
  unfold mZ
  refine dr rfl (cD ?_)
  refine bk t.fCode st (i:=0) rfl rfl rfl ?_
  rw [hc]
  refine tA sp_Itoa3 st fun r h' hr s2=>?_
  subst hr
  refine eR t3_ (fun K h=>by kernel_rfl) ?_
  refine bk t.fErr s2 (i:=0) rfl rfl rfl ?_
  rw [ht]
  refine eR false (fun K h=>by kernel_rfl) (dr rfl ?_)
  exact aW rfl s2
theorem sp_Error2 (b e:Nat) (t u:bW) (hc:t.fCode = 3) (ht:t.fErr = dq e) (hd:u.fCode = 3) (hu:u.fErr = Value.nilIface):Sp Tryz.prog iO [pv (some (b,0))] dP [trB b t,trB e u] (fun r=>pa_ (r = nZ) [trB b t,trB e u]):=by
  intro h st
  refine rm _ ?_
  unfold mZ
  refine dr rfl (cD ?_)
  refine bk t.fCode st (i:=0) rfl rfl rfl ?_
  rw [hc]
  refine tA sp_Itoa3 st fun r h' hr s2=>?_
  subst hr
  refine eR t3_ (fun K h=>by kernel_rfl) ?_
  refine bk t.fErr s2 (i:=0) rfl rfl rfl ?_
  rw [ht]
  refine eR true (fun K h=>by kernel_rfl) (dI rfl ?_)
  refine bk t.fErr s2 (i:=0) rfl rfl rfl ?_
  rw [ht]
  refine cln_en (f:=iO) (vs:=[pv (some (e,0))]) (fun K h=>by kernel_rfl) ?_
  refine bO (i:=1) (sp_Error1 e u hd hu) rfl s2 fun r h' hr s3=>?_
  subst hr
  refine eR ⟨#[58,32,116,114,97,112,32,51]⟩ (fun K h=>by kernel_rfl) ?_
  refine eR nZ (fun K h=>by kernel_rfl) ?_
  exact aW rfl s3
theorem star_ne {b d:Nat} {T T':TypeId} {c c':List Value} {l:List As} {h:Hp} (s:aG (blk b T c::blk d T' c'::l) h):b ≠ d:=by
  obtain ⟨h1,h2,dj,e,a,h3,h4,dj2,e2,a2,_⟩:=s
  rintro rfl
  have h1b:h1 b = some _:=a
  have h3b:h3 b = some _:=a2
  rcases dj b with x | x
  · rw [h1b] at x; cases x
  · rw [e2,un_left h3b] at x; cases x
theorem sp_Trap_Is (b d:Nat) (t w:bW):Sp Tryz.prog sT [pv (some (b,0)),dq d] aB [trB b t,trB d w] (fun r=>pa_ (r = (t.fCode == w.fCode)) [trB b t,trB d w]):=by
  intro h st
  refine sim_trap_Trap_Is _ _ ?_
  unfold sh_trap_Trap_Is
  refine eR (some (d,0),true) (fun K h=>by kernel_rfl) (dI rfl (dI rfl (dI rfl (cD (cD ?_)))))
  refine bk t.fCode st (i:=0) rfl rfl rfl ?_
  refine bk w.fCode st (i:=1) rfl rfl rfl ?_
  exact aW rfl st
theorem sp_Unwrap (b:Nat) (t:bW):Sp Tryz.prog nc [pv (some (b,0))] encV [trB b t] (fun r=>pa_ (r = t.fErr) [trB b t]):=by
  intro h st
  refine sim_trap_Trap_Unwrap _ ?_
  unfold rn
  refine dr rfl (cD ?_)
  refine bk t.fErr st (i:=0) rfl rfl rfl ?_
  exact aW rfl st
theorem eq_traps {K:Bool→Hp→Prop} {a b n m:Nat} {t u:bW} {l:List As} {h:Hp} (s:aG (trB a t::trB b u::l) h) (k:K false h):hpv Tryz.prog (do eqGuard .eql 171 (.tmp n) (.tmp m) (dq a) (dq b); binOp .eql 171 (dq a) (dq b):Sem Value) aB K h:=by
  obtain ⟨g1,a1,sub1⟩:=dV (l:=trB a t::trB b u::l) (A:=trB a t) (i:=0) (by rfl) s
  obtain ⟨g2,a2,sub2⟩:=dV (l:=trB a t::trB b u::l) (A:=trB b u) (i:=1) (by rfl) s
  have q1:h a = some (.cells (bW.C t).toArray nu (0,0)):=sub1 _ _ a1
  have q2:h b = some (.cells (bW.C u).toArray nu (0,0)):=sub2 _ _ a2
  have hne:=star_ne s
  have e:(a == b) = false:=by simpa using hne
  constructor
  rw [y6,cQ]
  refine x25 _ _ q1 q2 ?_
  rw [e]
  exact ⟨false,rfl,k⟩
theorem is_step {b d:Nat} {t w:bW} {l:List As} {h:Hp} {K:Bool→Hp→Prop} {Rec:Value→Hp→Prop} (st:aG (trB b t::trB d w::l) h)
    (h1:t.fCode = w.fCode→∀ h',aG (trB b t::trB d w::l) h'→K true h') (h0:t.fCode ≠ w.fCode→t.fErr = .nilIface→∀ h',aG (trB b t::trB d w::l) h'→K false h')
    (h2:t.fCode ≠ w.fCode→∀ e,t.fErr = dq e→∀ h',aG (trB b t::trB d w::l) h'→Rec (dq e) h') (hok:t.fErr = .nilIface∨∃ e,t.fErr = dq e):rY (dq d) true K Rec (dq b) h:=by
  unfold rY
  refine dI rfl (eq_traps st (dr rfl ?_))
  refine eR (dq b,true) (fun K h=>by kernel_rfl) (dI rfl ?_)
  refine cln_en (f:=sT) (vs:=[pv (some (b,0)),dq d]) (fun K h=>by kernel_rfl) ?_
  refine cN [] (rest:=l) (sp_Trap_Is b d t w) st rfl fun r h' s2=>?_
  obtain ⟨rfl,s3⟩:=bq.1 s2
  by_cases e:t.fCode = w.fCode
  · exact dI (by simpa using e) (h1 e _ s3)
  · refine dr (by simpa using e) ?_
    unfold rZ
    refine eR (dq b,true) (fun K h=>by kernel_rfl) (dI rfl ?_)
    refine cln_en (f:=nc) (vs:=[pv (some (b,0))]) (fun K h=>by kernel_rfl) ?_
    refine bO (i:=0) (sp_Unwrap b t) rfl s3 fun r h' hr s4=>?_
    subst hr
    rcases hok with hn | ⟨x,hx⟩
    · rw [hn]
      refine eR true (en_00 _) (dI rfl (h0 e hn _ ?_))
      simpa using s4
    · rw [hx]
      refine eR false (en_0 x _) (dr rfl (h2 e x hx _ ?_))
      simpa using s4
theorem sp_is1 (b d:Nat) (t w:bW) (hc:t.fCode = w.fCode) (hok:t.fErr = .nilIface∨∃ e,t.fErr = dq e):Sp Tryz.prog nG [dq b,dq d,.bool true] aB [trB b t,trB d w] (fun r=>pa_ (r = true) [trB b t,trB d w]):=by
  intro h st
  refine sim_errors_is _ _ _ ?_
  unfold wI
  refine ⟨fun s h=>s = dq b∧aG [trB b t,trB d w] h,fun _ _=>0,⟨rfl,st⟩,?_⟩
  rintro _ h1 ⟨rfl,s1⟩
  exact is_step s1 (fun _ h' s2=>aW rfl s2) (fun e=>absurd hc e) (fun e=>absurd hc e) hok
theorem sp_is2 (b e d:Nat) (t u w:bW) (ht:t.fErr = dq e) (hu:u.fErr = .nilIface) (hc:t.fCode ≠ w.fCode) (hd:u.fCode ≠ w.fCode) :
    Sp Tryz.prog nG [dq b,dq d,.bool true] aB [trB b t,trB e u,trB d w] (fun r=>pa_ (r = false) [trB b t,trB e u,trB d w]):=by
  intro h st
  refine sim_errors_is _ _ _ ?_
  unfold wI
  refine ⟨fun s h=>(s = dq b∨s = dq e)∧aG [trB b t,trB e u,trB d w] h,fun s _=>match s with | .iface _ (.pointer (some p))=>if p.block = b then 1 else 0 | _=>0,⟨.inl rfl,st⟩,?_⟩
  have hne:e ≠ b:=fun h=>(star_ne st) h.symm
  rintro _ h1 ⟨rfl | rfl,s1⟩
  · refine is_step (l:=[trB e u]) (bb [0,1] s1 rfl) (fun x=>absurd x hc) (fun _ x=>by rw [ht] at x; cases x) (fun _ x hx h' s2=>?_) (.inr ⟨e,ht⟩)
    rw [ht] at hx
    rw [← hx]
    exact ⟨⟨.inr rfl,bb [0,1] s2 rfl⟩,by show (if e = b then 1 else 0) < (if b = b then 1 else 0); rw [if_pos rfl,if_neg hne]; exact Nat.one_pos⟩
  · refine is_step (l:=[trB b t]) (bb [1,1] s1 rfl) (fun x=>absurd x hd) (fun _ _ h' s2=>aW rfl (bb [2,0] s2 rfl)) (fun _ x hx=>by rw [hu] at hx; cases hx) (.inl hu)
theorem sp_Is1 (b d:Nat) (t w:bW) (hc:t.fCode = w.fCode) (hok:t.fErr = .nilIface∨∃ e,t.fErr = dq e):Sp Tryz.prog nH [dq b,dq d] aB [trB b t,trB d w] (fun r=>pa_ (r = true) [trB b t,trB d w]):=by
  intro h st
  refine sim_errors_Is _ _ ?_
  unfold wJ
  refine eR false (en_0 b _) (dI rfl (eR false (en_0 d _) (dr rfl ?_)))
  refine tn (rtV be) (fun K h=>x7 d K h) ?_
  refine tn true (fun K h=>x13 K h) ?_
  refine cN [] (rest:=[]) (sp_is1 b d t w hc hok) st rfl fun r h' s2=>?_
  obtain ⟨rfl,s3⟩:=bq.1 s2
  exact aW rfl s3
theorem sp_Is2 (b e d:Nat) (t u w:bW) (ht:t.fErr = dq e) (hu:u.fErr = .nilIface) (hc:t.fCode ≠ w.fCode) (hd:u.fCode ≠ w.fCode) :
    Sp Tryz.prog nH [dq b,dq d] aB [trB b t,trB e u,trB d w] (fun r=>pa_ (r = false) [trB b t,trB e u,trB d w]):=by
  intro h st
  refine sim_errors_Is _ _ ?_
  unfold wJ
  refine eR false (en_0 b _) (dI rfl (eR false (en_0 d _) (dr rfl ?_)))
  refine tn (rtV be) (fun K h=>x7 d K h) ?_
  refine tn true (fun K h=>x13 K h) ?_
  refine cN [] (rest:=[]) (sp_is2 b e d t u w ht hu hc hd) st rfl fun r h' s2=>?_
  obtain ⟨rfl,s3⟩:=bq.1 s2
  exact aW rfl s3
theorem ut {α:Type} {A:α→As} {l:List As} {h:Hp} (s:aG (ex A::l) h):∃ x,aG (A x::l) h:=by
  obtain ⟨h1,h2,d,e,⟨x,a⟩,s2⟩:=s
  exact ⟨x,h1,h2,d,e,a,s2⟩
abbrev tr3:bW:=⟨3,-1,⟨0,0,0,0,0⟩,.nilIface⟩
abbrev tr4:bW:=⟨4,-1,⟨0,0,0,0,0⟩,.nilIface⟩
abbrev tr32 (e:Nat):bW:=⟨3,2,⟨1,2,0,0,0⟩,dq e⟩
theorem sp_begun1:Sp Tryz.prog lp [] aB [(etB ET EF)] (fun r=>pa_ (r = true) [(etB ET EF)]):=by
  intro h st
  refine wz ?_
  unfold pt
  refine cN [] (rest:=[(etB ET EF)]) (sp_Of 3 (by decide)) st rfl fun r h1 s1=>?_
  obtain ⟨e,x1⟩:=ut s1
  obtain ⟨rfl,y1⟩:=bq.1 x1
  refine cN [1,0] (rest:=[]) (sp_In 2 ⟨1,2,0,0,0⟩ e tr3) y1 rfl fun r h2 s2=>?_
  obtain ⟨b,x2⟩:=ut s2
  obtain ⟨rfl,y2⟩:=bq.1 x2
  refine bO (i:=1) (sp_First b) rfl y2 fun r h3 hr s3=>?_
  subst hr
  refine eR false (en_0 b _) (dr rfl (dI rfl (cD ?_)))
  refine bk 2 s3 (i:=0) rfl rfl rfl (dI rfl ?_)
  refine ld_s ⟨1,2,0,0,0⟩ s3 (i:=0) rfl (fun j v hj=>?_) (dI rfl ?_)
  · rcases j with _ | _ | _ | _ | _ | j <;> first | exact hj | (simp [ae.C] at hj)
  refine bk 3 s3 (i:=0) rfl rfl rfl (dI rfl ?_)
  refine cN [1,0] (rest:=[_]) (sp_Code b (tr32 e)) s3 rfl fun r h4 s4=>?_
  obtain ⟨rfl,y4⟩:=bq.1 s4
  refine dI rfl ?_
  refine cN [] (rest:=[]) (sp_Depth2 b e (tr32 e) tr3 rfl rfl) y4 rfl fun r h5 s5=>?_
  obtain ⟨rfl,y5⟩:=bq.1 s5
  refine dI rfl ?_
  refine cN [] (rest:=[_,_,_]) (sp_Of 3 (by decide)) y5 rfl fun r h6 s6=>?_
  obtain ⟨d,x6⟩:=ut s6
  obtain ⟨rfl,y6⟩:=bq.1 x6
  refine cN [2,0] (rest:=[_,_]) (sp_Is1 b d (tr32 e) tr3 rfl (.inr ⟨e,rfl⟩)) y6 rfl fun r h7 s7=>?_
  obtain ⟨rfl,y7⟩:=bq.1 s7
  refine dI rfl ?_
  refine cN [] (rest:=[_,_,_,_]) (sp_Of 4 (by decide)) y7 rfl fun r h8 s8=>?_
  obtain ⟨f,x8⟩:=ut s8
  obtain ⟨rfl,y8⟩:=bq.1 x8
  refine cN [1,3,0] (rest:=[_,_]) (sp_Is2 b e f (tr32 e) tr3 tr4 rfl rfl (show (3:Int) ≠ 4 by decide) (show (3:Int) ≠ 4 by decide)) y8 rfl fun r h9 s9=>?_
  obtain ⟨rfl,y9⟩:=bq.1 s9
  refine dI rfl ?_
  refine cln_en (f:=iO) (vs:=[pv (some (b,0))]) (fun K h=>by kernel_rfl) ?_
  refine cN [] (rest:=[_,_,_]) (sp_Error2 b e (tr32 e) tr3 rfl rfl rfl rfl) y9 rfl fun r h10 s10=>?_
  obtain ⟨rfl,y10⟩:=bq.1 s10
  refine eR true (fun K h=>by kernel_rfl) (dI rfl ?_)
  refine tA sp_Of0 y10 fun r h11 hr s11=>?_
  subst hr
  refine eR true (en_00 _) ?_
  exact aW rfl (bZ (l:=[_,_,_,_]) s11)
end Go.Proofs.YtniiiakkdoiaiaaGreatDoor
namespace Go.Proofs.YtniiiakkdoiaiaaGreatDoor
open Go Mb
set_option linter.unusedVariables false
def sh_cell_New (a0:Int) (K:Ptr→Hp→Prop):Hp→Prop:=nw qv (nS.C (⟨a0,0⟩:nS)) fun b5=>K (some (b5,0))
theorem sim_cell_New (a0:Int) {K:Ptr→Hp→Prop} {h:Hp} (H:sh_cell_New a0 K h):Ct Tryz.prog ta #[(.int .u64 a0)] h fun v h'=>∃ r,v = oV r∧K r h':=aw [(.int .u64 a0)] Tryz.func190 c c c fun _=>M<|O c<|M<|J c<|p (aZ c<|build_258_0 a0)<|aa<|hG c c c H fun b5 _ H1=>O c<|ai<|Y ⟨some (b5,0),c,H1⟩
def sh_cell_Cell_Up (a0:Ptr) (a1:Int) (K:(Int × Bool)→Hp→Prop):Hp→Prop:=br a0.isNone ( K (0,false)) ( nn a0 fun q9=>ld (q9.1,q9.2 + 1) (cI .i64) fun x11=>st (q9.1,q9.2 + 1) [.int .i64 (IntKind.i64.wrap (x11 + 1))]<|ld (q9.1,q9.2 + 0) (cI .u64) fun x18=>br (decide (x18 ≥ a1)) ( ld (q9.1,q9.2 + 0) (cI .u64) fun x24=>K (x24,false)) ( ld (q9.1,q9.2 + 0) (cI .u64) fun x28=>st (q9.1,q9.2 + 0) [.int .u64 (IntKind.u64.wrap (x28 + 1))]<|ld (q9.1,q9.2 + 0) (cI .u64) fun x35=>K (x35,true)))
theorem sim_cell_Cell_Up (a0:Ptr) (a1:Int) {K:(Int × Bool)→Hp→Prop} {h:Hp} (H:sh_cell_Cell_Up a0 a1 K h):Ct Tryz.prog oL #[(pv a0),(.int .u64 a1)] h fun v h'=>∃ r,v = bI r∧K r h':=aw [(pv a0),(.int .u64 a1)] Tryz.func192 c c c fun _=>M<|p (ar c)<|O c<|ak<|M<|J c<|p (cm Tryz.underlying239 c)<|ac<|av c H (fun k1 H2=>M<|p (ar c)<|O c<|ai<|bw (bR c (bY c)<|bY c) ⟨(0,false),c,H2⟩) fun k1 H2=>an<|M<|J c<|bE H2 fun q9 e3 H4=>p (aI<|aL c<|ap e3)<|p (ad so c)<|aa<|aV H4 aY c (fun _=>c) c fun x11 H5=>p (bp c c)<|p (aI<|aL c<|ap e3)<|p (ad so c)<|aa<|dw qM c c c c c H5 fun _ H6=>ac<|ak<|M<|J (aL c<|ap e3)<|p (aI c)<|p (ad nM c)<|aa<|aV H6 cu c (fun _=>c) c fun x18 H7=>J c<|p (jH c c)<|ac<|av c H7 (fun k8 H9=>M<|J (aL c<|ap e3)<|p (aI c)<|p (ad nM c)<|aa<|aV H9 cu c (fun _=>c) c fun x24 H10=>p (ar c)<|O c<|ai<|bw (bR c (bY c)<|bY c) ⟨(x24,false),c,H10⟩) fun k8 H9=>an<|M<|J (aL c<|ap e3)<|p (aI c)<|p (ad nM c)<|aa<|aV H9 cu c (fun _=>c) c fun x28 H11=>p (bp c c)<|p (aI c)<|p (ad nM c)<|aa<|dw inf_25 c c c c c H11 fun _ H12=>ac<|M<|J (aL c<|ap e3)<|p (aI c)<|p (ad nM c)<|aa<|aV H12 cu c (fun _=>c) c fun x35 H13=>p (ar c)<|O c<|ai<|bw (bR c (bY c)<|bY c) ⟨(x35,true),c,H13⟩
def ua (a0:Ptr) (K:Int→Hp→Prop):Hp→Prop:=br a0.isNone ( K 0) ( nn a0 fun q6=>ld (q6.1,q6.2 + 1) (cI .i64) fun x8=>st (q6.1,q6.2 + 1) [.int .i64 (IntKind.i64.wrap (x8 + 1))]<|ld (q6.1,q6.2 + 0) (cI .u64) fun x15=>K x15)
theorem sim_cell_Cell_Load (a0:Ptr) {K:Int→Hp→Prop} {h:Hp} (H:ua a0 K h):Ct Tryz.prog lU #[(pv a0)] h fun v h'=>∃ r,v = gI r∧K r h':=aw [(pv a0)] Tryz.func204 c c c fun _=>M<|O c<|ak<|M<|J c<|p (cm Tryz.underlying239 c)<|ac<|av c H (fun k1 H2=>M<|O c<|ai<|Y ⟨0,c,H2⟩) fun k1 H2=>an<|M<|J c<|bE H2 fun q6 e3 H4=>p (aI<|aL c<|ap e3)<|p (ad so c)<|aa<|aV H4 aY c (fun _=>c) c fun x8 H5=>p (bp c c)<|p (aI<|aL c<|ap e3)<|p (ad so c)<|aa<|dw qM c c c c c H5 fun _ H6=>ac<|M<|J (aL c<|ap e3)<|p (aI c)<|p (ad nM c)<|aa<|aV H6 cu c (fun _=>c) c fun x15 H7=>O c<|ai<|Y ⟨x15,c,H7⟩
def vn (a0:Ptr) (a1:Int) (a2:Int) (K:Bool→Hp→Prop):Hp→Prop:=br a0.isNone ( K false) ( nn a0 fun q10=>ld (q10.1,q10.2 + 1) (cI .i64) fun x12=>st (q10.1,q10.2 + 1) [.int .i64 (IntKind.i64.wrap (x12 + 1))]<|ld (q10.1,q10.2 + 0) (cI .u64) fun x19=>br (x19 != a1) ( K false) ( st (q10.1,q10.2 + 0) [.int .u64 a2]<|K true))
theorem sim_cell_Cell_Cas (a0:Ptr) (a1:Int) (a2:Int) {K:Bool→Hp→Prop} {h:Hp} (H:vn a0 a1 a2 K h):Ct Tryz.prog re #[(pv a0),(.int .u64 a1),(.int .u64 a2)] h fun v h'=>∃ r,v = aB r∧K r h':=aw [(pv a0),(.int .u64 a1),(.int .u64 a2)] Tryz.func205 c c c fun _=>M<|O c<|ak<|M<|J c<|p (cm Tryz.underlying239 c)<|ac<|av c H (fun k1 H2=>M<|O c<|ai<|Y ⟨false,c,H2⟩) fun k1 H2=>an<|M<|J c<|bE H2 fun q10 e3 H4=>p (aI<|aL c<|ap e3)<|p (ad so c)<|aa<|aV H4 aY c (fun _=>c) c fun x12 H5=>p (bp c c)<|p (aI<|aL c<|ap e3)<|p (ad so c)<|aa<|dw qM c c c c c H5 fun _ H6=>ac<|ak<|M<|J (aL c<|ap e3)<|p (aI c)<|p (ad nM c)<|aa<|aV H6 cu c (fun _=>c) c fun x19 H7=>J c<|p (pF c c)<|ac<|av c H7 (fun k8 H9=>M<|O c<|ai<|Y ⟨false,c,H9⟩) fun k8 H9=>an<|M<|J (aL c<|ap e3)<|J c<|p (aI c)<|p (ad nM c)<|aa<|dw inf_25 c c c c c H9 fun _ H10=>ac<|M<|O c<|ai<|Y ⟨true,c,H10⟩
end Go.Proofs.YtniiiakkdoiaiaaGreatDoor
namespace Go.Proofs.YtniiiakkdoiaiaaGreatDoor
open Go Mb
set_option linter.unusedVariables false
def sh_ticket_New (K:Ptr→Hp→Prop):Hp→Prop:=cl Tryz.prog ta [(.int .u64 0)] oV fun r1=>cl Tryz.prog ta [(.int .u64 0)] oV fun r2=>nw mG (kx.C (⟨r1,r2⟩:kx)) fun b4=>K (some (b4,0))
theorem sim_ticket_New {K:Ptr→Hp→Prop} {h:Hp} (H:sh_ticket_New K h):Ct Tryz.prog wU #[] h fun v h'=>∃ r,v = tw r∧K r h':=aw [] Tryz.func191 c c c fun _=>M<|O c<|M<|aa<|Z H en_190 fun r1 _ H1=>aa<|Z H1 en_190 fun r2 _ H2=>p (aZ c<|build_260_0_1 r1 r2)<|aa<|hG c c c H2 fun b4 _ H3=>O c<|ai<|Y ⟨some (b4,0),c,H3⟩
def rq (a0:Ptr) (K:Int→Hp→Prop):Hp→Prop:=br a0.isNone ( K 0) ( nn a0 fun q9=>ld (q9.1,q9.2 + 0) cP fun x11=>cl Tryz.prog oL [(pv x11),(.int .u64 18446744073709551615)] bI fun r12=>K (IntKind.u64.wrap (r12.1 - 1)))
theorem sim_ticket_Lock_Draw (a0:Ptr) {K:Int→Hp→Prop} {h:Hp} (H:rq a0 K h):Ct Tryz.prog ng #[(pv a0)] h fun v h'=>∃ r,v = gI r∧K r h':=aw [(pv a0)] Tryz.func193 c c c fun _=>M<|O c<|ak<|M<|J c<|p (cm Tryz.underlying241 c)<|ac<|av c H (fun k1 H2=>M<|O c<|ai<|Y ⟨0,c,H2⟩) fun k1 H2=>an<|M<|J c<|bE H2 fun q9 e3 H4=>p (aI<|aL c<|ap e3)<|p (ad fld_260_0 c)<|aa<|aV H4 sc_239 c (fun _=>c) c fun x11 H5=>aa<|Z H5 en_192 fun r12 _ H6=>J c<|p (aj c c)<|p (aj c c)<|p (ar c)<|O c<|M<|J c<|p (v_sub c c)<|O c<|ai<|Y ⟨IntKind.u64.wrap (r12.1 - 1),c,H6⟩
def ro (a0:Ptr) (a1:Int) (K:Bool→Hp→Prop):Hp→Prop:=br (!a0.isNone) ( nn a0 fun q9=>ld (q9.1,q9.2 + 1) cP fun x11=>cl Tryz.prog lU [(pv x11)] gI fun r12=>br (r12 == a1) ( ld (q9.1,q9.2 + 0) cP fun x21=>cl Tryz.prog lU [(pv x21)] gI fun r22=>K (decide (a1 < r22))) ( K false)) ( K false)
theorem sim_ticket_Lock_Turn (a0:Ptr) (a1:Int) {K:Bool→Hp→Prop} {h:Hp} (H:ro a0 a1 K h):Ct Tryz.prog jU #[(pv a0),(.int .u64 a1)] h fun v h'=>∃ r,v = aB r∧K r h':=aw [(pv a0),(.int .u64 a1)] Tryz.func195 c c c fun _=>M<|O c<|M<|J c<|p (v_pneT Tryz.underlying241 c)<|J c<|V c c (ay _) (fun g1=>wv<|ah c)<|bT H (fun k3 H4=>bE H4 fun q9 e5 H6=>F (D k3)<|R (aI<|aL (aD c k3)<|ap e5)<|F (D k3)<|R (ad fld_260_1 c)<|F (D k3)<|aV H6 sc_239 c (fun _=>c) c fun x11 H7=>F (D k3)<|Z H7 en_204 fun r12 _ H8=>F (D k3)<|R (ah c)<|F (D k3)<|R (bM c c)<|p (aT c k3 c)<|J c<|V c c (ay _) (fun g9=>wv<|ah c)<|V c c (ay _) (fun g10=>wv<|ah<|aL c<|ap e5)<|V c c (ay _) (fun g11=>wv<|aI<|aD c g11)<|V c c (ay _) (fun g12=>wv<|ad fld_260_0<|aD c g12)<|bT H8 (fun k14 H15=>F (D k14)<|aV H15 sc_239 (aD c k14) (fun _=>c) c fun x21 H16=>F (D k14)<|Z H16 en_204 fun r22 _ H17=>F (D k14)<|R (ct (aD c k14) c)<|p (aT c k14 c)<|O c<|ai<|Y ⟨decide (a1 < r22),c,H17⟩) fun k14 H15=>W (aQ k14)<|W (aQ k14)<|W (aQ k14)<|p (aq c k14 c)<|O c<|ai<|Y ⟨false,c,H15⟩) fun k3 H4=>W (aQ k3)<|W (aQ k3)<|W (aQ k3)<|W (aQ k3)<|W (aQ k3)<|W (aQ k3)<|p (aq c k3 c)<|J c<|W c<|W c<|W c<|W c<|W c<|W c<|W c<|p (aq c c c)<|O c<|ai<|Y ⟨false,c,H4⟩
def rp (a0:Ptr) (a1:Int) (K:Bool→Hp→Prop):Hp→Prop:=cl Tryz.prog jU [(pv a0),(.int .u64 a1)] aB fun r7=>br r7 ( nn a0 fun q10=>ld (q10.1,q10.2 + 1) cP fun x12=>cl Tryz.prog re [(pv x12),(.int .u64 a1),(.int .u64 (IntKind.u64.wrap (a1 + 1)))] aB fun r16=>K r16) ( K false)
theorem sim_ticket_Lock_Pass (a0:Ptr) (a1:Int) {K:Bool→Hp→Prop} {h:Hp} (H:rp a0 a1 K h):Ct Tryz.prog ne #[(pv a0),(.int .u64 a1)] h fun v h'=>∃ r,v = aB r∧K r h':=aw [(pv a0),(.int .u64 a1)] Tryz.func196 c c c fun _=>M<|O c<|M<|J c<|J c<|aa<|Z H en_195 fun r7 _ H1=>J c<|V c c (ay _) (fun g2=>wv<|ah c)<|bT H1 (fun k4 H5=>bE H5 fun q10 e6 H7=>F (D k4)<|R (aI<|aL (aD c k4)<|ap e6)<|F (D k4)<|R (ad fld_260_1 c)<|F (D k4)<|aV H7 sc_239 c (fun _=>c) c fun x12 H8=>F (D k4)<|R (ah c)<|F (D k4)<|R (ah c)<|F (D k4)<|R (bp c c)<|F (D k4)<|Z H8 en_205 fun r16 _ H9=>p (aT c k4 c)<|O c<|ai<|Y ⟨r16,c,H9⟩) fun k4 H5=>W (aQ k4)<|W (aQ k4)<|W (aQ k4)<|W (aQ k4)<|W (aQ k4)<|W (aQ k4)<|W (aQ k4)<|p (aq c k4 c)<|O c<|ai<|Y ⟨false,c,H5⟩
end Go.Proofs.YtniiiakkdoiaiaaGreatDoor
namespace Go.Proofs.YtniiiakkdoiaiaaGreatDoor
open Go Mb
def kH (x:Ptr) (c:Int × Int):As:=fun h=>∃ b:Nat,(x = some (b,0))∧aG [blk b qv [.int .u64 c.1,.int .i64 c.2]] h
theorem cell_op {x:Ptr} {c:Int × Int} {l:List As} {h:Hp} (s0:aG (kH x c::l) h):∃ b,x = some (b,0)∧aG (blk b qv [.int .u64 c.1,.int .i64 c.2]::l) h:=by
  obtain ⟨b,hx,st⟩:=op_ s0
  exact ⟨b,hx,st⟩
theorem cell_cl {b:Nat} {v n:Int} {l:List As} {h:Hp} (st:aG (blk b qv [.int .u64 v,.int .i64 n]::l) h):aG (kH (some (b,0)) (v,n)::l) h:=cl_ (m:=fun b=>[blk b qv [.int .u64 (v,n).1,.int .i64 (v,n).2]]) b rfl st
namespace Cell
def tick (c:Int × Int):Int × Int:=(c.1,IntKind.i64.wrap (c.2 + 1))
def cas (c:Int × Int) (o v:Int):Bool × Int × Int:=if c.1 = o then (true,v,(tick c).2) else (false,tick c)
def up (c:Int × Int) (m:Int):(Int × Bool) × Int × Int:=if c.1 ≥ m then ((c.1,false),tick c) else ((IntKind.u64.wrap (c.1 + 1),true),(IntKind.u64.wrap (c.1 + 1),(tick c).2))
end Cell
theorem sp_cell_New (v:Int):Sp Tryz.prog ta [.int .u64 v] oV [] (fun r=>aG [kH r (v,0)]):=by
  intro h st
  refine sim_cell_New _ ?_
  unfold sh_cell_New
  exact oY st fun b h' s1=>cell_cl s1
theorem sp_cell_Load (x:Ptr) (c:Int × Int):Sp Tryz.prog lU [pv x] gI [kH x c] (fun r=>pa_ (r = c.1) [kH x (Cell.tick c)]):=by
  intro h s0
  obtain ⟨b,rfl,st⟩:=cell_op s0
  refine sim_cell_Cell_Load _ ?_
  unfold ua
  refine dr rfl (cD ?_)
  refine bk c.2 st (i:=0) rfl rfl rfl ?_
  refine uB (i:=0) st rfl (Nat.le_refl _) fun h2 s2=>?_
  refine bk c.1 s2 (i:=0) rfl rfl rfl ?_
  exact aW rfl (cell_cl s2)
theorem sp_cell_Cas (x:Ptr) (c:Int × Int) (o v:Int):Sp Tryz.prog re [pv x,.int .u64 o,.int .u64 v] aB [kH x c] (fun r=>pa_ (r = (Cell.cas c o v).1) [kH x (Cell.cas c o v).2]):=by
  intro h s0
  obtain ⟨b,rfl,st⟩:=cell_op s0
  refine sim_cell_Cell_Cas _ _ _ ?_
  unfold vn
  refine dr rfl (cD ?_)
  refine bk c.2 st (i:=0) rfl rfl rfl ?_
  refine uB (i:=0) st rfl (Nat.le_refl _) fun h2 s2=>?_
  refine bk c.1 s2 (i:=0) rfl rfl rfl ?_
  refine aX (fun k=>?_) (fun k=>?_)
  · have k':¬ c.1 = o:=by simpa using k
    have e:Cell.cas c o v = (false,Cell.tick c):=if_neg k'
    rw [e]
    exact aW rfl (cell_cl s2)
  · have k':c.1 = o:=by simpa using k
    have e:Cell.cas c o v = (true,v,(Cell.tick c).2):=if_pos k'
    rw [e]
    refine uB (i:=0) s2 rfl (show 0 + 0 + 1 ≤ 2 by decide) fun h3 s3=>?_
    exact aW rfl (cell_cl s3)
theorem sp_cell_Up (x:Ptr) (c:Int × Int) (m:Int):Sp Tryz.prog oL [pv x,.int .u64 m] bI [kH x c] (fun r=>pa_ (r = (Cell.up c m).1) [kH x (Cell.up c m).2]):=by
  intro h s0
  obtain ⟨b,rfl,st⟩:=cell_op s0
  refine sim_cell_Cell_Up _ _ ?_
  unfold sh_cell_Cell_Up
  refine dr rfl (cD ?_)
  refine bk c.2 st (i:=0) rfl rfl rfl ?_
  refine uB (i:=0) st rfl (Nat.le_refl _) fun h2 s2=>?_
  refine bk c.1 s2 (i:=0) rfl rfl rfl ?_
  refine aX (fun k=>?_) (fun k=>?_)
  · have k':c.1 ≥ m:=by simpa using k
    have e:Cell.up c m = ((c.1,false),Cell.tick c):=if_pos k'
    rw [e]
    refine bk c.1 s2 (i:=0) rfl rfl rfl ?_
    exact aW rfl (cell_cl s2)
  · have k':¬ c.1 ≥ m:=by simpa using k
    have e:Cell.up c m = ((IntKind.u64.wrap (c.1 + 1),true),(IntKind.u64.wrap (c.1 + 1),(Cell.tick c).2)):=if_neg k'
    rw [e]
    refine bk c.1 s2 (i:=0) rfl rfl rfl ?_
    refine uB (i:=0) s2 rfl (show 0 + 0 + 1 ≤ 2 by decide) fun h3 s3=>?_
    refine bk (IntKind.u64.wrap (c.1 + 1)) s3 (i:=0) rfl rfl rfl ?_
    exact aW rfl (cell_cl s3)
def uL (x:Ptr) (k:(Int × Int) × (Int × Int)):As:=fun h=>∃ bs:Nat × Ptr × Ptr,(x = some (bs.1,0))∧aG [blk bs.1 mG [pv bs.2.1,pv bs.2.2],kH bs.2.1 k.1,kH bs.2.2 k.2] h
theorem lock_op {x:Ptr} {k:(Int × Int) × (Int × Int)} {l:List As} {h:Hp} (s0:aG (uL x k::l) h):∃ b p q,x = some (b,0)∧aG (blk b mG [pv p,pv q]::kH p k.1::kH q k.2::l) h:=by
  obtain ⟨⟨b,p,q⟩,hx,st⟩:=op_ s0
  exact ⟨b,p,q,hx,st⟩
theorem lock_cl {b:Nat} {p q:Ptr} {k1 k2:Int × Int} {l:List As} {h:Hp} (st:aG (blk b mG [pv p,pv q]::kH p k1::kH q k2::l) h):aG (uL (some (b,0)) (k1,k2)::l) h :=
  cl_ (m:=fun bs:Nat × Ptr × Ptr=>[blk bs.1 mG [pv bs.2.1,pv bs.2.2],kH bs.2.1 (k1,k2).1,kH bs.2.2 (k1,k2).2]) (b,p,q) rfl st
namespace Lock
abbrev S:=(Int × Int) × (Int × Int)
def draw (k:S):Int × S:=(IntKind.u64.wrap ((Cell.up k.1 18446744073709551615).1.1 - 1),((Cell.up k.1 18446744073709551615).2,k.2))
def turn (k:S) (t:Int):Bool × S:=if k.2.1 = t then (decide (t < k.1.1),(Cell.tick k.1,Cell.tick k.2)) else (false,(k.1,Cell.tick k.2))
def pass (k:S) (t:Int):Bool × S:=if (turn k t).1 then ((Cell.cas (turn k t).2.2 t (IntKind.u64.wrap (t + 1))).1,((turn k t).2.1,(Cell.cas (turn k t).2.2 t (IntKind.u64.wrap (t + 1))).2)) else (false,(turn k t).2)
end Lock
theorem sp_ticket_New:Sp Tryz.prog wU [] tw [] (fun r=>aG [uL r ((0,0),(0,0))]):=by
  intro h st
  refine sim_ticket_New ?_
  unfold sh_ticket_New
  refine cN [] (sp_cell_New 0) st rfl fun p h1 s1=>?_
  refine cN [] (sp_cell_New 0) (dB s1) rfl fun q h2 s2=>?_
  refine oY (dB s2) fun b h3 s3=>?_
  exact lock_cl (bb [0,1] s3 rfl)
theorem sp_ticket_Draw (x:Ptr) (k:Lock.S):Sp Tryz.prog ng [pv x] gI [uL x k] (fun r=>pa_ (r = (Lock.draw k).1) [uL x (Lock.draw k).2]):=by
  intro h s0
  obtain ⟨b,p,q,rfl,st⟩:=lock_op s0
  refine sim_ticket_Lock_Draw _ ?_
  unfold rq
  refine dr rfl (cD ?_)
  refine bk p st (i:=0) rfl rfl rfl ?_
  refine cN [1] (sp_cell_Up p k.1 _) st rfl fun r h1 s1=>?_
  obtain ⟨hr,s2⟩:=bq.1 s1
  subst hr
  exact aW rfl (lock_cl (bb [1] s2 rfl))
theorem sp_ticket_Turn (x:Ptr) (k:Lock.S) (t:Int):Sp Tryz.prog jU [pv x,.int .u64 t] aB [uL x k] (fun r=>pa_ (r = (Lock.turn k t).1) [uL x (Lock.turn k t).2]):=by
  intro h s0
  obtain ⟨b,p,q,rfl,st⟩:=lock_op s0
  refine sim_ticket_Lock_Turn _ _ ?_
  unfold ro
  refine dI rfl (cD ?_)
  refine bk q st (i:=0) rfl rfl rfl ?_
  refine cN [2] (sp_cell_Load q k.2) st rfl fun r h1 s1=>?_
  obtain ⟨hr,s2⟩:=bq.1 s1
  subst hr
  refine aX (fun c=>?_) (fun c=>?_)
  · have c':k.2.1 = t:=by simpa using c
    have e:Lock.turn k t = (decide (t < k.1.1),(Cell.tick k.1,Cell.tick k.2)):=if_pos c'
    rw [e]
    refine bk p s2 (i:=1) rfl rfl rfl ?_
    refine cN [2] (sp_cell_Load p k.1) s2 rfl fun r h2 s3=>?_
    obtain ⟨hr,s4⟩:=bq.1 s3
    subst hr
    exact aW rfl (lock_cl (bb [2] s4 rfl))
  · have c':¬ k.2.1 = t:=by simpa using c
    have e:Lock.turn k t = (false,(k.1,Cell.tick k.2)):=if_neg c'
    rw [e]
    exact aW rfl (lock_cl (bb [1,1] s2 rfl))
theorem sp_ticket_Pass (x:Ptr) (k:Lock.S) (t:Int):Sp Tryz.prog ne [pv x,.int .u64 t] aB [uL x k] (fun r=>pa_ (r = (Lock.pass k t).1) [uL x (Lock.pass k t).2]):=by
  intro h s0
  refine sim_ticket_Lock_Pass _ _ ?_
  unfold rp
  refine cN [0] (sp_ticket_Turn x k t) s0 rfl fun r h1 s1=>?_
  obtain ⟨hr,s2⟩:=bq.1 s1
  subst hr
  refine aX (fun c=>?_) (fun c=>?_)
  · have e:Lock.pass k t = ((Cell.cas (Lock.turn k t).2.2 t (IntKind.u64.wrap (t + 1))).1,((Lock.turn k t).2.1,(Cell.cas (Lock.turn k t).2.2 t (IntKind.u64.wrap (t + 1))).2)):=if_pos c
    rw [e]
    obtain ⟨b,p,q,rfl,st⟩:=lock_op s2
    refine cD (bk q st (i:=0) rfl rfl rfl ?_)
    refine cN [2] (sp_cell_Cas q _ t _) st rfl fun r h2 s3=>?_
    obtain ⟨hr,s4⟩:=bq.1 s3
    subst hr
    exact aW rfl (lock_cl (bb [1,1] s4 rfl))
  · have e:Lock.pass k t = (false,(Lock.turn k t).2):=by unfold Lock.pass; rw [c]; rfl
    rw [e]
    exact aW rfl s2
end Go.Proofs.YtniiiakkdoiaiaaGreatDoor
namespace Go.Proofs.YtniiiakkdoiaiaaGreatDoor
open Go Mb
set_option linter.unusedVariables false
def pn (K:Bool→Hp→Prop):Hp→Prop:=cl Tryz.prog vv [(.int .i64 2)] tx fun r24=>cl Tryz.prog lf [] im fun r25=>cl Tryz.prog iB [] gB fun r26=>cl Tryz.prog sX [(.int .i64 3)] oU fun r27=>cl Tryz.prog ta [(.int .u64 5)] oV fun r28=>cl Tryz.prog wU [] tw fun r29=>cl Tryz.prog wV [(.int .i64 2)] sf fun r30=>br ((((((r24.isNone || r25.isNone) || r26.isNone) || r27.isNone) || r28.isNone) || r29.isNone) || r30.isNone) ( K false) ( cl Tryz.prog dW [(pv r25),(.int .i64 1),(.agg (am.C (⟨1,2,3⟩:am)).toArray)] bc fun r59=>cl Tryz.prog oF [(pv r26),(.agg (al.C (⟨1,5,1,1⟩:al)).toArray)] aB fun r67=>cl Tryz.prog oE [(pv r26),(.int .i64 1),(.int .i64 5)] fF fun r70=>cl Tryz.prog mW [(pv r27),(.int .i64 0),(.int .u64 4)] eA fun r74=>cl Tryz.prog lP [(pv r27),(.int .i64 2)] bI fun r77=>cl Tryz.prog oL [(pv r28),(.int .u64 9)] bI fun r82=>cl Tryz.prog ng [(pv r29)] gI fun r86=>cl Tryz.prog ju [(pv r30)] bK fun r89=>cl Tryz.prog lq [] aB fun r97=>br (((((((((((r97 && (r59 == 0)) && (eN (⟨1,2,3⟩:am)).2) && (((eN (⟨1,2,3⟩:am)).1) == 33059)) && r67) && r70.2) && (r70.1.fFrame == 1)) && (r74 == 2)) && (r77.1 == 4)) && r77.2) && (r82.1 == 6)) && (r86 == 0)) ( cl Tryz.prog jU [(pv r29),(.int .u64 0)] aB fun r141=>br r141 ( cl Tryz.prog ne [(pv r29),(.int .u64 0)] aB fun r145=>br ((r145 && (r89.1 == 0)) && r89.2) ( cl Tryz.prog fB [(pv r24),(.int .i64 1),(.int .i64 3),(.int .u64 9)] aB fun r156=>br ((r156 && (az (⟨6,0,0,0,0⟩:ae)).2) && (((az (⟨6,0,0,0,0⟩:ae)).1) == 6)) ( cl Tryz.prog gM [(.agg (ae.C (⟨6,8,0,1,0⟩:ae)).toArray),(.int .i64 2)] bc fun r167=>br (r167 == 2) ( cl Tryz.prog n_word_Args [(.int .i64 3)] eA fun r171=>br ((r171 == 4) && (aP 1 3)) ( cl Tryz.prog lL [(pv r25),(.int .i64 2)] cz fun r179=>br ((r179.len:Int) == 1) ( cl Tryz.prog pR [(pv r30)] gI fun r185=>K (r185 == 2)) ( K false)) ( K false)) ( K false)) ( K false)) ( K false)) ( K false)) ( K false))
theorem ww {K:Bool→Hp→Prop} {h:Hp} (H:pn K h):Ct Tryz.prog ll #[] h fun v h'=>∃ r,v = aB r∧K r h':=aw [] Tryz.func169 c c c fun _=>M<|O c<|M<|aa<|Z H en_90 fun r24 _ H1=>aa<|Z H1 en_93 fun r25 _ H2=>aa<|Z H2 en_63 fun r26 _ H3=>aa<|Z H3 en_61 fun r27 _ H4=>p (ar c)<|p (ar c)<|p (ar c)<|O c<|M<|aa<|Z H4 en_190 fun r28 _ H5=>aa<|Z H5 en_191 fun r29 _ H6=>aa<|Z H6 en_91 fun r30 _ H7=>p (ar c)<|p (ar c)<|O c<|ak<|M<|J c<|p (cm Tryz.underlying124 c)<|J c<|V c c (aM _) (fun g8=>wv<|ah c)<|V c c (aM _) (fun g9=>wv<|cm Tryz.underlying133<|aD c g9)<|p (dp c c)<|J c<|V c c (aM _) (fun g10=>wv<|ah c)<|V c c (aM _) (fun g11=>wv<|cm Tryz.underlying103<|aD c g11)<|p (dp c c)<|J c<|V c c (aM _) (fun g12=>wv<|ah c)<|V c c (aM _) (fun g13=>wv<|cm Tryz.underlying95<|aD c g13)<|p (dp c c)<|J c<|V c c (aM _) (fun g14=>wv<|ah c)<|V c c (aM _) (fun g15=>wv<|cm Tryz.underlying239<|aD c g15)<|p (dp c c)<|J c<|V c c (aM _) (fun g16=>wv<|ah c)<|V c c (aM _) (fun g17=>wv<|cm Tryz.underlying241<|aD c g17)<|p (dp c c)<|J c<|V c c (aM _) (fun g18=>wv<|ah c)<|V c c (aM _) (fun g19=>wv<|cm Tryz.underlying126<|aD c g19)<|p (dp c c)<|ac<|av c H7 (fun k20 H21=>M<|O c<|ai<|Y ⟨false,c,H21⟩) fun k20 H21=>an<|M<|J c<|p (aZ c<|oS 1 2 3)<|aa<|Z H21 en_97 fun r59 _ H22=>O c<|M<|p (aZ c<|oS 1 2 3)<|aa<|cH (vs:=[(.agg (am.C (⟨1,2,3⟩:am)).toArray)]) (bv<|ct_pte_Put (⟨1,2,3⟩:am) _) en_139 c c<|J c<|p (aj c c)<|p (aj c c)<|p (ar c)<|O c<|M<|J c<|p (aZ c<|vW 1 5 1 1)<|aa<|Z H22 en_143 fun r67 _ H23=>O c<|M<|J c<|aa<|Z H23 en_141 fun r70 _ H24=>J c<|p (aj c c)<|p (aj c c)<|aa<|aK (l:=al.C (⟨0,0,0,0⟩:al)) kK c c fun b12=>aa<|aO (k:=0) (vs:=al.C r70.1) fH c c c c c c c<|O c<|M<|J c<|aa<|Z H24 en_71 fun r74 _ H25=>O c<|M<|J c<|aa<|Z H25 en_75 fun r77 _ H26=>J c<|p (aj c c)<|p (aj c c)<|p (ar c)<|O c<|M<|J c<|aa<|Z H26 en_192 fun r82 _ H27=>J c<|p (aj c c)<|p (aj c c)<|p (ar c)<|O c<|M<|J c<|aa<|Z H27 en_193 fun r86 _ H28=>O c<|M<|J c<|aa<|Z H28 en_154 fun r89 _ H29=>J c<|p (aj c c)<|p (aj c c)<|p (ar c)<|O c<|M<|p (aZ c<|build_27_0 6)<|aa<|cH (vs:=[(.agg (ae.C (⟨6,0,0,0,0⟩:ae)).toArray)]) (bv<|ka (⟨6,0,0,0,0⟩:ae) _) en_64 c c<|J c<|p (aj c c)<|p (aj c c)<|p (ar c)<|O c<|M<|aa<|Z H29 en_194 fun r97 _ H30=>J c<|V c c (ay _) (fun g31=>wv<|ah c)<|V c c (ay _) (fun g32=>wv<|bM (aD c g32) c)<|p (bP c c)<|J c<|V c c (ay _) (fun g33=>wv<|ah c)<|p (bP c c)<|J c<|V c c (ay _) (fun g34=>wv<|ah c)<|V c c (ay _) (fun g35=>wv<|bM (aD c g35) c)<|p (bP c c)<|J c<|V c c (ay _) (fun g36=>wv<|ah c)<|p (bP c c)<|J c<|V c c (ay _) (fun g37=>wv<|ah c)<|p (bP c c)<|J c<|V c c (ay _) (fun g38=>wv<|ad lz c)<|V c c (ay _) (fun g39=>cv<|bf (k:=0) aY (aD c g39) c c)<|V c c (ay _) (fun g40=>wv<|bM (aD c g40) c)<|p (bP c c)<|J c<|V c c (ay _) (fun g41=>wv<|ah c)<|V c c (ay _) (fun g42=>wv<|bM (aD c g42) c)<|p (bP c c)<|J c<|V c c (ay _) (fun g43=>wv<|ah c)<|V c c (ay _) (fun g44=>wv<|bM (aD c g44) c)<|p (bP c c)<|J c<|V c c (ay _) (fun g45=>wv<|ah c)<|p (bP c c)<|J c<|V c c (ay _) (fun g46=>wv<|ah c)<|V c c (ay _) (fun g47=>wv<|bM (aD c g47) c)<|p (bP c c)<|J c<|V c c (ay _) (fun g48=>wv<|ah c)<|V c c (ay _) (fun g49=>wv<|bM (aD c g49) c)<|p (bP c c)<|J c<|V c c (ay _) (fun g50=>wv<|ah c)<|bT H30 (fun k52 H53=>F (D k52)<|gj H53 en_195 (aS (aD c k52)<|aS c bS) c fun r141 _ H54=>p (aT c k52 c)<|J c<|V c c (ay _) (fun g55=>wv<|ah c)<|bT H54 (fun k57 H58=>F (D k57)<|gj H58 en_196 (aS (aD c k57)<|aS c bS) c fun r145 _ H59=>p (aT c k57 c)<|J c<|V c c (ay _) (fun g60=>wv<|ah c)<|V c c (ay _) (fun g61=>wv<|bM (aD c g61) c)<|p (bP c c)<|J c<|V c c (ay _) (fun g62=>wv<|ah c)<|p (bP c c)<|J c<|V c c (ay _) (fun g63=>wv<|ah c)<|bT H59 (fun k65 H66=>F (D k65)<|gj H66 en_146 (aS (aD c k65)<|aS c<|aS c<|aS c bS) c fun r156 _ H67=>p (aT c k65 c)<|J c<|V c c (ay _) (fun g68=>wv<|ah c)<|p (bP c c)<|J c<|V c c (ay _) (fun g69=>wv<|ah c)<|V c c (ay _) (fun g70=>wv<|bM (aD c g70) c)<|p (bP c c)<|J c<|V c c (ay _) (fun g71=>wv<|aZ c<|gZ 6 8 0 1)<|bT H67 (fun k73 H74=>F (D k73)<|gj H74 en_95 (aS (aD c k73)<|aS c bS) c fun r167 _ H75=>F (D k73)<|R (bM c c)<|p (aT c k73 c)<|J c<|bT H75 (fun k77 H78=>F (D k77)<|Z H78 en_197 fun r171 _ H79=>F (D k77)<|R (bM c c)<|p (aT c k77 c)<|J c<|cX (vs:=[(.int .i64 1),(.int .i64 3)]) c c c (ay _) (fun g80=>bv<|cZ 1 3 _) mw (fun g80=>c) c<|p (bP c c)<|J c<|V c c (ay _) (fun g81=>wv<|ah c)<|bT H79 (fun k83 H84=>F (D k83)<|gj H84 en_159 (aS (aD c k83)<|aS c bS) c fun r179 _ H85=>F (D k83)<|R (dz c Tryz.underlying41 c)<|F (D k83)<|R (bM c c)<|p (aT c k83 c)<|J c<|V c c (ay _) (fun g86=>wv<|ah c)<|bT H85 (fun k88 H89=>F (D k88)<|gj H89 en_198 (aS (aD c k88) bS) c fun r185 _ H90=>F (D k88)<|R (bM c c)<|p (aT c k88 c)<|O c<|ai<|Y ⟨(r185 == 2),c,H90⟩) fun k88 H89=>W (aQ k88)<|W (aQ k88)<|p (aq c k88 c)<|O c<|ai<|Y ⟨false,c,H89⟩) fun k83 H84=>W (aQ k83)<|W (aQ k83)<|W (aQ k83)<|p (aq c k83 c)<|J c<|W c<|W c<|W c<|p (aq c c c)<|O c<|ai<|Y ⟨false,c,H84⟩) fun k77 H78=>W (aQ k77)<|W (aQ k77)<|p (aq c k77 c)<|J c<|W c<|p (aq c c c)<|J c<|W c<|W c<|W c<|W c<|p (aq c c c)<|J c<|W c<|W c<|W c<|p (aq c c c)<|O c<|ai<|Y ⟨false,c,H78⟩) fun k73 H74=>W (aQ k73)<|W (aQ k73)<|p (aq c k73 c)<|J c<|W c<|W c<|p (aq c c c)<|J c<|W c<|p (aq c c c)<|J c<|W c<|W c<|W c<|W c<|p (aq c c c)<|J c<|W c<|W c<|W c<|p (aq c c c)<|O c<|ai<|Y ⟨false,c,H74⟩) fun k65 H66=>W (aQ k65)<|p (aq c k65 c)<|J c<|W c<|p (aq c c c)<|J c<|W c<|W c<|p (aq c c c)<|J c<|W c<|W c<|W c<|p (aq c c c)<|J c<|W c<|W c<|p (aq c c c)<|J c<|W c<|p (aq c c c)<|J c<|W c<|W c<|W c<|W c<|p (aq c c c)<|J c<|W c<|W c<|W c<|p (aq c c c)<|O c<|ai<|Y ⟨false,c,H66⟩) fun k57 H58=>W (aQ k57)<|p (aq c k57 c)<|J c<|W c<|W c<|p (aq c c c)<|J c<|W c<|p (aq c c c)<|J c<|W c<|W c<|p (aq c c c)<|J c<|W c<|p (aq c c c)<|J c<|W c<|W c<|p (aq c c c)<|J c<|W c<|W c<|W c<|p (aq c c c)<|J c<|W c<|W c<|p (aq c c c)<|J c<|W c<|p (aq c c c)<|J c<|W c<|W c<|W c<|W c<|p (aq c c c)<|J c<|W c<|W c<|W c<|p (aq c c c)<|O c<|ai<|Y ⟨false,c,H58⟩) fun k52 H53=>W (aQ k52)<|p (aq c k52 c)<|J c<|W c<|W c<|p (aq c c c)<|J c<|W c<|W c<|p (aq c c c)<|J c<|W c<|p (aq c c c)<|J c<|W c<|W c<|p (aq c c c)<|J c<|W c<|p (aq c c c)<|J c<|W c<|W c<|p (aq c c c)<|J c<|W c<|W c<|W c<|p (aq c c c)<|J c<|W c<|W c<|p (aq c c c)<|J c<|W c<|p (aq c c c)<|J c<|W c<|W c<|W c<|W c<|p (aq c c c)<|J c<|W c<|W c<|W c<|p (aq c c c)<|O c<|ai<|Y ⟨false,c,H53⟩
def pq (K:Bool→Hp→Prop):Hp→Prop:=cl Tryz.prog ll [] aB fun r1=>K r1
theorem wx {K:Bool→Hp→Prop} {h:Hp} (H:pq K h):Ct Tryz.prog lm #[] h fun v h'=>∃ r,v = aB r∧K r h':=aw [] Tryz.func130 c c c fun _=>M<|O c<|M<|aa<|Z H en_169 fun r1 _ H1=>O c<|ai<|Y ⟨r1,c,H1⟩
end Go.Proofs.YtniiiakkdoiaiaaGreatDoor
namespace Go.Proofs.YtniiiakkdoiaiaaGreatDoor
open Go Mb
variable {ET:Nat} {EF:Nat × Nat}
section
variable {l:List As} {h:Hp} {x:Ptr}
theorem mem_nn {fs:List (List Int)} (s:aG (ik x fs::l) h):x.isNone = false:=by obtain ⟨b,_,_,rfl,_⟩:=mem_op s; rfl
theorem nn_of {α:Type} {φ:α→Prop} {m:α→List As} (hx:∀ z,φ z→x.isNone = false) (s:aG ((fun h=>∃ z,φ z∧aG (m z) h)::l) h):x.isNone = false:=by
  obtain ⟨z,f,_⟩:=op_ s
  exact hx z f
theorem table_nn {ps:List Pte} (s:aG (cU x ps::l) h):x.isNone = false:=nn_of (fun _ e=>by rw [e.1]; rfl) s
theorem tlb_nn {t:List TL × Int} (s:aG (fC x t::l) h):x.isNone = false:=nn_of (fun _ e=>by rw [e.1]; rfl) s
theorem mail_nn {bs:List (List Int)} (s:aG (jh x bs::l) h):x.isNone = false:=nn_of (fun _ e=>by rw [e.1]; rfl) s
theorem cell_nn {c:Int × Int} (s:aG (kH x c::l) h):x.isNone = false:=nn_of (fun _ e=>by rw [e]; rfl) s
theorem lock_nn {k:(Int × Int) × (Int × Int)} (s:aG (uL x k::l) h):x.isNone = false:=nn_of (fun _ e=>by rw [e]; rfl) s
theorem pool_nn {p:List Int} (s:aG (fR x p::l) h):x.isNone = false:=nn_of (fun _ e=>by rw [e.1]; rfl) s
end
theorem sp_Begun1:Sp Tryz.prog lq [] aB [(etB ET EF)] (fun r=>pa_ (r = true) [(etB ET EF)]):=by
  intro h st
  refine wA ?_
  unfold pu
  exact bO (i:=0) sp_begun1 rfl st fun r h' hr s=>aW hr s
theorem sp_begun2:Sp Tryz.prog ll [] aB [(etB ET EF)] (fun r=>pa_ (r = true) [(etB ET EF)]):=by
  intro h st
  refine ww ?_
  unfold pn
  refine mb (sp_mem_New 2 (by decide) (by decide)) st fun a1 h1 s1=>?_
  refine mb oa s1 fun a2 h2 s2=>?_
  refine mb wg s2 fun a3 h3 s3=>?_
  refine mb (sp_mail_New 3 (by decide) (by decide)) s3 fun a4 h4 s4=>?_
  refine mb (sp_cell_New 5) s4 fun a5 h5 s5=>?_
  refine mb sp_ticket_New s5 fun a6 h6 s6=>?_
  refine mb (sp_pool_New 2 (by decide) (by decide)) s6 fun a7 h7 s7=>?_
  have n1:=mem_nn s1
  have n2:=table_nn s2
  have n3:=tlb_nn s3
  have n4:=mail_nn s4
  have n5:=cell_nn s5
  have n6:=lock_nn s6
  have n7:=pool_nn s7
  rw [n1,n2,n3,n4,n5,n6,n7]
  refine dr rfl ?_
  refine bO (i:=5) (ki a2 _ 1 ⟨1,2,3⟩) rfl s7 fun r1 h8 e1 s8=>?_
  refine bO (i:=4) (sp_tlb_Fill a3 _ ⟨1,5,1,1⟩) rfl s8 fun r2 h9 e2 s9=>?_
  refine bO (i:=4) (sp_tlb_Find a3 _ 1 5) rfl s9 fun r3 h10 e3 s10=>?_
  refine bO (i:=3) (sp_mail_All a4 _ 0 4 (fun l hl=>?_)) rfl s10 fun r4 h11 e4 s11=>?_
  · have:l = []:=by simpa using hl
    subst this
    exact ⟨fun _ h=>(by cases h),.nil,by decide⟩
  refine bO (i:=3) (sp_mail_Take a4 _ 2) rfl s11 fun r5 h12 e5 s12=>?_
  refine bO (i:=2) (sp_cell_Up a5 _ 9) rfl s12 fun r6 h13 e6 s13=>?_
  refine bO (i:=1) (sp_ticket_Draw a6 _) rfl s13 fun r7 h14 e7 s14=>?_
  refine bO (i:=0) (wh a7 _) rfl s14 fun r8 h15 e8 s15=>?_
  refine bO (i:=7) sp_Begun1 rfl s15 fun r9 h16 e9 s16=>?_
  subst e1 e2 e3 e4 e5 e6 e7 e8 e9
  refine dI (by kernel_rfl) ?_
  refine bO (i:=1) (sp_ticket_Turn a6 _ 0) rfl s16 fun r10 h17 e10 s17=>?_
  subst e10
  refine dI (by kernel_rfl) ?_
  refine bO (i:=1) (sp_ticket_Pass a6 _ 0) rfl s17 fun r11 h18 e11 s18=>?_
  subst e11
  refine dI (by kernel_rfl) ?_
  refine bO (i:=6) (lG a1 _ 1 3 9) rfl s18 fun r12 h19 e12 s19=>?_
  subst e12
  refine dI (by kernel_rfl) ?_
  refine tA (jf ⟨6,8,0,1,0⟩ 2) s19 fun r13 h20 e13 s20=>?_
  subst e13
  refine dI (by kernel_rfl) ?_
  refine tA (sp_word_Args 3) s20 fun r14 h21 e14 s21=>?_
  subst e14
  refine dI (by kernel_rfl) ?_
  refine vS (i:=5) (sp_table_By a2 _ 2) rfl s21 fun r15 h22 s22=>?_
  have e15:((r15.len:Int) == 1) = true:=by
    rw [(ch (j:=0) s22 rfl).1]
    kernel_rfl
  refine dI e15 ?_
  refine bO (i:=1) (sp_pool_Bits a7 _) rfl s22 fun r16 h23 e16 s23=>?_
  subst e16
  refine aW (by kernel_rfl) (bZ (l:=[_,_,_,_,_,_,_,_]) s23)
theorem sp_Begun2:Sp Tryz.prog lm [] aB [(etB ET EF)] (fun r=>pa_ (r = true) [(etB ET EF)]):=by
  intro h st
  refine wx ?_
  unfold pq
  exact bO (i:=0) sp_begun2 rfl st fun r h' hr s=>aW hr s
end Go.Proofs.YtniiiakkdoiaiaaGreatDoor
namespace Go.Proofs.YtniiiakkdoiaiaaGreatDoor
open Go Mb
set_option linter.unusedVariables false
def ow (K:Bool→Hp→Prop):Hp→Prop:=cl Tryz.prog nF [(.agg (aC.C (⟨1,2,2⟩:aC)).toArray)] dJ fun r23=>cl Tryz.prog wY [(.int .i64 2)] si fun r24=>cl Tryz.prog nI [(.int .i64 3)] iF fun r25=>cl Tryz.prog iB [] gB fun r26=>cl Tryz.prog lf [] im fun r27=>cl Tryz.prog vv [(.int .i64 2)] tx fun r28=>br (((((r23.isNone || r24.isNone) || r25.isNone) || r26.isNone) || r27.isNone) || r28.isNone) ( K false) ( cl Tryz.prog dx [(pv r23),(.int .i64 0),(.agg (ae.C (⟨1,1,0,0,0⟩:ae)).toArray)] bg fun r54=>cl Tryz.prog dx [(pv r23),(.int .i64 0),(.agg (ae.C (⟨6,2,1,3,0⟩:ae)).toArray)] bg fun r60=>cl Tryz.prog dx [(pv r23),(.int .i64 0),(.agg (ae.C (⟨21,2,5,77,0⟩:ae)).toArray)] bg fun r65=>cl Tryz.prog dx [(pv r23),(.int .i64 0),(.agg (ae.C (⟨20,2,5,0,0⟩:ae)).toArray)] bg fun r69=>cl Tryz.prog jy [(pv r24),(.int .i64 0),(.int .i64 1),(.int .i64 1)] bc fun r73=>cl Tryz.prog ig [(pv r24),(.int .i64 0),(.int .i64 1),(.int .i64 1),(.int .i64 3),(.int .i64 1)] bc fun r75=>cl Tryz.prog iR [(pv r25),(.int .i64 0)] bI fun r78=>cl Tryz.prog jY [(pv r25),(.int .i64 1),(.int .u64 r78.1)] aB fun r83=>cl Tryz.prog dW [(pv r27),(.int .i64 2),(.agg (am.C (⟨1,1,1⟩:am)).toArray)] bc fun r86=>cl Tryz.prog n_user_Do [(pv r26),(pv r27),(pv r28),(.int .i64 0),(.agg (ae.C (⟨20,2,3,0,0⟩:ae)).toArray)] eG fun r92=>cl Tryz.prog nh [(pv r23),(.int .i64 0),(.agg (ae.C (⟨7,5,0,0,0⟩:ae)).toArray)] iq fun r97=>cl Tryz.prog lm [] aB fun r98=>br ((((((r98 && r54.2) && (r54.1.fErr == 0)) && (r60.1.fErr == 0)) && (r69.1.fVal == 77)) && (r73 == 0)) && (r75 == 0)) ( cl Tryz.prog kT [(pv r24),(.int .i64 0),(.int .i64 1)] cR fun r127=>br (((((r127.len:Int) == 1) && (r78.1 == 1)) && r78.2) && r83) ( cl Tryz.prog jm [(pv r25),(.int .u64 1)] aB fun r143=>br (!r143) ( cl Tryz.prog iQ [(pv r25),(.int .u64 1)] cz fun r148=>br ((((((r148.len:Int) == 1) && (r86 == 0)) && (r92.1.fErr == 0)) && (r92.2.fFrame == 1)) && (mL 3 3 4)) ( cl Tryz.prog ku [(.int .i64 3)] iq fun r171=>cl Tryz.prog nH [r97,r171] aB fun r172=>br r172 ( cl Tryz.prog mt [(pv r23)] cz fun r176=>K ((r176.len:Int) == 1)) ( K false)) ( K false)) ( K false)) ( K false)) ( K false))
theorem uW {K:Bool→Hp→Prop} {h:Hp} (H:ow K h):Ct Tryz.prog kC #[] h fun v h'=>∃ r,v = aB r∧K r h':=aw [] Tryz.func87 c c c fun _=>M<|O c<|M<|p (aZ c<|tt 1 2 2)<|aa<|Z H en_60 fun r23 _ H1=>aa<|Z H1 en_92 fun r24 _ H2=>aa<|Z H2 en_62 fun r25 _ H3=>p (ar c)<|p (ar c)<|O c<|M<|aa<|Z H3 en_63 fun r26 _ H4=>aa<|Z H4 en_93 fun r27 _ H5=>aa<|Z H5 en_90 fun r28 _ H6=>p (ar c)<|p (ar c)<|O c<|ak<|M<|J c<|p (cm Tryz.underlying93 c)<|J c<|V c c (aM _) (fun g7=>wv<|ah c)<|V c c (aM _) (fun g8=>wv<|cm Tryz.underlying128<|aD c g8)<|p (dp c c)<|J c<|V c c (aM _) (fun g9=>wv<|ah c)<|V c c (aM _) (fun g10=>wv<|cm Tryz.underlying97<|aD c g10)<|p (dp c c)<|J c<|V c c (aM _) (fun g11=>wv<|ah c)<|V c c (aM _) (fun g12=>wv<|cm Tryz.underlying103<|aD c g12)<|p (dp c c)<|J c<|V c c (aM _) (fun g13=>wv<|ah c)<|V c c (aM _) (fun g14=>wv<|cm Tryz.underlying133<|aD c g14)<|p (dp c c)<|J c<|V c c (aM _) (fun g15=>wv<|ah c)<|V c c (aM _) (fun g16=>wv<|cm Tryz.underlying124<|aD c g16)<|p (dp c c)<|ac<|av c H6 (fun k17 H18=>M<|O c<|ai<|Y ⟨false,c,H18⟩) fun k17 H18=>an<|M<|J c<|p (aZ c<|iZ 1 1)<|aa<|Z H18 en_73 fun r54 _ H19=>J c<|p (aj c c)<|p (aj c c)<|aa<|aK (l:=ab.C (⟨0,0⟩:ab)) cY c c fun b7=>aa<|aO (k:=0) (vs:=ab.C r54.1) bL c c c c c c c<|O c<|M<|J c<|p (aZ c<|gZ 6 2 1 3)<|aa<|Z H19 en_73 fun r60 _ H20=>J c<|p (aj c c)<|p (aj c c)<|aa<|aK (l:=ab.C (⟨0,0⟩:ab)) cY c c fun b9=>aa<|aO (k:=0) (vs:=ab.C r60.1) bL c c c c c c c<|O c<|M<|J c<|p (aZ c<|gZ 21 2 5 77)<|aa<|Z H20 en_73 fun r65 _ H21=>ac<|M<|J c<|p (aZ c<|tu 20 2 5)<|aa<|Z H21 en_73 fun r69 _ H22=>J c<|p (aj c c)<|p (aj c c)<|aa<|aK (l:=ab.C (⟨0,0⟩:ab)) cY c c fun b11=>aa<|aO (k:=0) (vs:=ab.C r69.1) bL c c c c c c c<|O c<|M<|J c<|aa<|Z H22 en_126 fun r73 _ H23=>J c<|aa<|Z H23 en_127 fun r75 _ H24=>p (ar c)<|O c<|M<|J c<|aa<|Z H24 en_70 fun r78 _ H25=>J c<|p (aj c c)<|p (aj c c)<|p (ar c)<|O c<|M<|J c<|J c<|aa<|Z H25 en_76 fun r83 _ H26=>O c<|M<|J c<|p (aZ c<|oS 1 1 1)<|aa<|Z H26 en_97 fun r86 _ H27=>O c<|M<|J c<|J c<|J c<|p (aZ c<|tu 20 2 3)<|aa<|Z H27 en_128 fun r92 _ H28=>J c<|p (aj c c)<|p (aj c c)<|aa<|aK (l:=ab.C (⟨0,0⟩:ab)) cY c c fun b19=>aa<|aK (l:=al.C (⟨0,0,0,0⟩:al)) kK c c fun b20=>aa<|aO (k:=1) (vs:=ab.C r92.1) bL c c c c c c c<|aa<|aO (k:=0) (vs:=al.C r92.2) fH c c c c c c c<|ac<|M<|J c<|p (aZ c<|iZ 7 5)<|aa<|Z H28 en_129 fun r97 _ H29=>O c<|M<|aa<|Z H29 en_130 fun r98 _ H30=>J c<|V c c (ay _) (fun g31=>wv<|ah c)<|p (bP c c)<|J c<|V c c (ay _) (fun g32=>wv<|ad jB c)<|V c c (ay _) (fun g33=>cv<|bf (k:=4) nE (aD c g33) c c)<|V c c (ay _) (fun g34=>wv<|bM (aD c g34) c)<|p (bP c c)<|J c<|V c c (ay _) (fun g35=>wv<|ad jB c)<|V c c (ay _) (fun g36=>cv<|bf (k:=3) nE (aD c g36) c c)<|V c c (ay _) (fun g37=>wv<|bM (aD c g37) c)<|p (bP c c)<|J c<|V c c (ay _) (fun g38=>wv<|ad fld_47_1 c)<|V c c (ay _) (fun g39=>cv<|bf (k:=2) cu (aD c g39) c c)<|V c c (ay _) (fun g40=>wv<|bM (aD c g40) c)<|p (bP c c)<|J c<|V c c (ay _) (fun g41=>wv<|ah c)<|V c c (ay _) (fun g42=>wv<|bM (aD c g42) c)<|p (bP c c)<|J c<|V c c (ay _) (fun g43=>wv<|ah c)<|V c c (ay _) (fun g44=>wv<|bM (aD c g44) c)<|p (bP c c)<|J c<|V c c (ay _) (fun g45=>wv<|ah c)<|bT H30 (fun k47 H48=>F (D k47)<|gj H48 en_131 (aS (aD c k47)<|aS c<|aS c bS) c fun r127 _ H49=>F (D k47)<|R (dz c Tryz.underlying173 c)<|F (D k47)<|R (bM c c)<|p (aT c k47 c)<|J c<|V c c (ay _) (fun g50=>wv<|ah c)<|V c c (ay _) (fun g51=>wv<|bM (aD c g51) c)<|p (bP c c)<|J c<|V c c (ay _) (fun g52=>wv<|ah c)<|p (bP c c)<|J c<|V c c (ay _) (fun g53=>wv<|ah c)<|p (bP c c)<|J c<|V c c (ay _) (fun g54=>wv<|ah c)<|bT H49 (fun k56 H57=>F (D k56)<|gj H57 en_72 (aS (aD c k56)<|aS c bS) c fun r143 _ H58=>F (D k56)<|R (cn c)<|p (aT c k56 c)<|J c<|V c c (ay _) (fun g59=>wv<|ah c)<|bT H58 (fun k61 H62=>F (D k61)<|gj H62 en_106 (aS (aD c k61)<|aS c bS) c fun r148 _ H63=>F (D k61)<|R (dz c Tryz.underlying41 c)<|F (D k61)<|R (bM c c)<|p (aT c k61 c)<|J c<|V c c (ay _) (fun g64=>wv<|ah c)<|V c c (ay _) (fun g65=>wv<|bM (aD c g65) c)<|p (bP c c)<|J c<|V c c (ay _) (fun g66=>wv<|ad jB c)<|V c c (ay _) (fun g67=>cv<|bf (k:=1) nE (aD c g67) c c)<|V c c (ay _) (fun g68=>wv<|bM (aD c g68) c)<|p (bP c c)<|J c<|V c c (ay _) (fun g69=>wv<|ad lz c)<|V c c (ay _) (fun g70=>cv<|bf (k:=0) aY (aD c g70) c c)<|V c c (ay _) (fun g71=>wv<|bM (aD c g71) c)<|p (bP c c)<|J c<|cX (vs:=[(.int .i64 3),(.int .u64 3),(.int .u64 4)]) c c c (ay _) (fun g72=>bv<|uO 3 3 4 _) en_132 (fun g72=>c) c<|p (bP c c)<|J c<|V c c (ay _) (fun g73=>wv<|ah c)<|bT H63 (fun k75 H76=>F (D k75)<|Z H76 xq fun r171 _ H77=>F (D k75)<|gj H77 en_133 (aS (aD c k75)<|aS c bS) c fun r172 _ H78=>p (aT c k75 c)<|J c<|V c c (ay _) (fun g79=>wv<|ah c)<|bT H78 (fun k81 H82=>F (D k81)<|gj H82 en_85 (aS (aD c k81) bS) c fun r176 _ H83=>F (D k81)<|R (dz c Tryz.underlying41 c)<|F (D k81)<|R (bM c c)<|p (aT c k81 c)<|O c<|ai<|Y ⟨((r176.len:Int) == 1),c,H83⟩) fun k81 H82=>W (aQ k81)<|W (aQ k81)<|W (aQ k81)<|p (aq c k81 c)<|O c<|ai<|Y ⟨false,c,H82⟩) fun k75 H76=>W (aQ k75)<|W (aQ k75)<|p (aq c k75 c)<|J c<|W c<|W c<|W c<|W c<|p (aq c c c)<|O c<|ai<|Y ⟨false,c,H76⟩) fun k61 H62=>W (aQ k61)<|W (aQ k61)<|W (aQ k61)<|p (aq c k61 c)<|J c<|W c<|W c<|p (aq c c c)<|J c<|W c<|W c<|W c<|p (aq c c c)<|J c<|W c<|W c<|W c<|p (aq c c c)<|J c<|W c<|p (aq c c c)<|J c<|W c<|W c<|W c<|p (aq c c c)<|J c<|W c<|W c<|W c<|W c<|p (aq c c c)<|O c<|ai<|Y ⟨false,c,H62⟩) fun k56 H57=>W (aQ k56)<|W (aQ k56)<|p (aq c k56 c)<|J c<|W c<|W c<|W c<|W c<|p (aq c c c)<|J c<|W c<|W c<|p (aq c c c)<|J c<|W c<|W c<|W c<|p (aq c c c)<|J c<|W c<|W c<|W c<|p (aq c c c)<|J c<|W c<|p (aq c c c)<|J c<|W c<|W c<|W c<|p (aq c c c)<|J c<|W c<|W c<|W c<|W c<|p (aq c c c)<|O c<|ai<|Y ⟨false,c,H57⟩) fun k47 H48=>W (aQ k47)<|W (aQ k47)<|W (aQ k47)<|p (aq c k47 c)<|J c<|W c<|W c<|p (aq c c c)<|J c<|W c<|p (aq c c c)<|J c<|W c<|p (aq c c c)<|J c<|W c<|W c<|W c<|p (aq c c c)<|J c<|W c<|W c<|W c<|W c<|p (aq c c c)<|J c<|W c<|W c<|p (aq c c c)<|J c<|W c<|W c<|W c<|p (aq c c c)<|J c<|W c<|W c<|W c<|p (aq c c c)<|J c<|W c<|p (aq c c c)<|J c<|W c<|W c<|W c<|p (aq c c c)<|J c<|W c<|W c<|W c<|W c<|p (aq c c c)<|O c<|ai<|Y ⟨false,c,H48⟩
def ox (K:Bool→Hp→Prop):Hp→Prop:=cl Tryz.prog kC [] aB fun r1=>K r1
theorem uX {K:Bool→Hp→Prop} {h:Hp} (H:ox K h):Ct Tryz.prog kD #[] h fun v h'=>∃ r,v = aB r∧K r h':=aw [] Tryz.func50 c c c fun _=>M<|O c<|M<|aa<|Z H en_87 fun r1 _ H1=>O c<|ai<|Y ⟨r1,c,H1⟩
end Go.Proofs.YtniiiakkdoiaiaaGreatDoor
namespace Go.Proofs.YtniiiakkdoiaiaaGreatDoor
open Go Mb
variable {ET:Nat} {EF:Nat × Nat}
section
variable {l:List As} {h:Hp} {x:Ptr}
theorem plain_nn {k:PK} (s:aG (bn x k::l) h):x.isNone = false:=nn_of (fun _ e=>by rw [e.1]; rfl) s
theorem tree_nn {k:Caps.T} (s:aG (cG x k::l) h):x.isNone = false:=nn_of (fun _ e=>by rw [e.1]; rfl) s
theorem epochs_nn {k:List Int × List Int} (s:aG (eW x k::l) h):x.isNone = false:=nn_of (fun _ e=>by rw [e.1]; rfl) s
end
theorem sp_plain_Err (x:Ptr) (k:PK) (e:Int) (c:ae) (h1:(PK.do_ k e c).1.2 = true) (h2:(PK.do_ k e c).1.1.fErr ≠ 0):Sp Tryz.prog nh [pv x,.int .i64 e,.agg c.C.toArray] iq [(etB ET EF),bn x k]
    (fun r=>ex fun b:Nat × Nat=>pa_ (r = dq b.1) [trB b.1 ⟨(PK.do_ k e c).1.1.fErr,e,c,dq b.2⟩,(etB ET EF),bn x k]):=by
  intro h st
  have hn:=plain_nn (bb [1] st rfl)
  refine sim_plain_Kernel_Err _ _ _ ?_
  unfold rv
  refine dr hn ?_
  refine vS (i:=1) (uC x k) rfl st fun y g1 s1=>?_
  refine bO (i:=0) (jK y k e c) rfl s1 fun r g2 hr s2=>?_
  subst hr
  refine dr (by rw [h1]; rfl) ?_
  refine cN [] (rest:=[_,_,_]) (sp_Of _ h2) s2 rfl fun r g3 s3=>?_
  obtain ⟨b,x3⟩:=ut s3
  obtain ⟨rfl,y3⟩:=bq.1 x3
  refine cN [2,0] (rest:=[_,_]) (sp_In e c b _) y3 rfl fun r g4 s4=>?_
  obtain ⟨d,x4⟩:=ut s4
  obtain ⟨rfl,y4⟩:=bq.1 x4
  refine ⟨(d,b),aW rfl (bZ (l:=[_,_]) (bb [2,2] y4 rfl))⟩
theorem sp_begun11:Sp Tryz.prog kC [] aB [(etB ET EF)] (fun r=>pa_ (r = true) [(etB ET EF)]):=by
  intro h st
  refine uW ?_
  unfold ow
  refine mb (rM ⟨1,2,2⟩ (by decide)) st fun a1 h1 s1=>?_
  refine mb (sp_caps_New 2 (by decide) (by decide)) s1 fun a2 h2 s2=>?_
  refine mb (rO 3 (by decide) (by decide)) s2 fun a3 h3 s3=>?_
  refine mb wg s3 fun a4 h4 s4=>?_
  refine mb oa s4 fun a5 h5 s5=>?_
  refine mb (sp_mem_New 2 (by decide) (by decide)) s5 fun a6 h6 s6=>?_
  have n1:=plain_nn s1
  have n2:=tree_nn s2
  have n3:=epochs_nn s3
  have n4:=tlb_nn s4
  have n5:=table_nn s5
  have n6:=mem_nn s6
  rw [n1,n2,n3,n4,n5,n6]
  refine dr rfl ?_
  refine bO (i:=5) (jK a1 _ 0 ⟨1,1,0,0,0⟩) rfl s6 fun r1 h7 e1 s7=>?_
  refine bO (i:=5) (jK a1 _ 0 ⟨6,2,1,3,0⟩) rfl s7 fun r2 h8 e2 s8=>?_
  refine bO (i:=5) (jK a1 _ 0 ⟨21,2,5,77,0⟩) rfl s8 fun r3 h9 e3 s9=>?_
  refine bO (i:=5) (jK a1 _ 0 ⟨20,2,5,0,0⟩) rfl s9 fun r4 h10 e4 s10=>?_
  refine bO (i:=4) (wl a2 _ 0 1 1) rfl s10 fun r5 h11 e5 s11=>?_
  refine bO (i:=4) (sC a2 _ 0 1 1 3 1) rfl s11 fun r6 h12 e6 s12=>?_
  refine bO (i:=3) (sp_epoch_Begin a3 _ 0 (by decide)) rfl s12 fun r7 h13 e7 s13=>?_
  subst e7
  refine bO (i:=3) (sp_epoch_Ack a3 _ 1 _) rfl s13 fun r8 h14 e8 s14=>?_
  refine bO (i:=1) (ki a5 _ 2 ⟨1,1,1⟩) rfl s14 fun r9 h15 e9 s15=>?_
  refine cN [2,1,0] (rest:=[_,_,_,_]) (sp_user_Do a4 a5 a6 _ _ _ 0 ⟨20,2,3,0,0⟩) s15 rfl fun r10 h16 x16=>?_
  obtain ⟨e10,s16⟩:=bq.1 x16
  subst e1 e2 e3 e4 e5 e6 e8 e9 e10
  refine cN [6,5] (rest:=[_,_,_,_,_]) (sp_plain_Err a1 _ 0 ⟨7,5,0,0,0⟩ (by kernel_rfl) (by decide)) s16 rfl fun r11 h17 x17=>?_
  obtain ⟨⟨b,b'⟩,z17⟩:=ut x17
  obtain ⟨rfl,s17⟩:=bq.1 z17
  refine bO (i:=1) sp_Begun2 rfl s17 fun r12 h18 e12 s18=>?_
  subst e12
  refine dI (by kernel_rfl) ?_
  refine vS (i:=7) (sp_caps_Below a2 _ 0 1) rfl s18 fun r13 h19 s19=>?_
  have e13:((r13.len:Int) == 1) = true:=by
    rw [(ch (j:=0) s19 rfl).1]
    kernel_rfl
  rw [e13]
  refine dI (by kernel_rfl) ?_
  refine bO (i:=7) (sp_epoch_Done a3 _ 1) rfl s19 fun r14 h20 e14 s20=>?_
  subst e14
  refine dI (by kernel_rfl) ?_
  refine vS (i:=7) (sp_epoch_Waits a3 _ 1) rfl s20 fun r15 h21 s21=>?_
  have e15:((r15.len:Int) == 1) = true:=by
    rw [(ch (j:=0) s21 rfl).1]
    kernel_rfl
  rw [e15]
  refine dI (by kernel_rfl) ?_
  refine cN [] (rest:=[_,_,_,_,_,_,_,_,_,_]) (sp_Of 3 (by decide)) s21 rfl fun r16 h22 x22=>?_
  obtain ⟨d,z22⟩:=ut x22
  obtain ⟨rfl,s22⟩:=bq.1 z22
  refine cN [3,0] (rest:=[_,_,_,_,_,_,_,_,_]) (sp_Is1 b d _ tr3 (by kernel_rfl) (.inr ⟨b',by kernel_rfl⟩)) s22 rfl fun r17 h23 x23=>?_
  obtain ⟨rfl,s23⟩:=bq.1 x23
  refine dI rfl ?_
  refine vS (i:=5) (sp_plain_Free a1 _) rfl s23 fun r18 h24 s24=>?_
  have e18:((r18.len:Int) == 1) = true:=by
    rw [(ch (j:=0) s24 rfl).1]
    kernel_rfl
  exact aW e18 (bZ (l:=[_,_,_,_,_,_,_,_,_,_,_]) (bb [0,0,0,0,0,1,1,1,1,1,1] s24 rfl))
theorem sp_Begun11:Sp Tryz.prog kD [] aB [(etB ET EF)] (fun r=>pa_ (r = true) [(etB ET EF)]):=by
  intro h st
  refine uX ?_
  unfold ox
  exact bO (i:=0) sp_begun11 rfl st fun r h' hr s=>aW hr s
end Go.Proofs.YtniiiakkdoiaiaaGreatDoor
