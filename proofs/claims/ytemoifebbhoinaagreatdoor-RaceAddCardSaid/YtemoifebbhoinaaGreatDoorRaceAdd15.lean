/- Part of the proof of: The law RaceAdd returns true for every input, and leaves its arguments as they were. -/
import Derived.Test.YtemoifebbhoinaaGreatDoorRaceAdd14
set_option linter.all false
set_option maxRecDepth 20000
namespace Go.Proofs.YtemoifebbhoinaaGreatDoor
open Go.Proofs.Tryz
open Go.IntKind (i64 u64)
open _root_.Nat (le_refl)
section
open Go Mb
def sh_trap_Of (a0:Int) (K:Value->Hp->Prop):Hp->Prop:=br (a0 == 0) ( K Value.nilIface) ( nw nE (bX.C (⟨a0,(-1),(⟨0,0,0,0,0⟩:ai),Value.nilIface⟩:bX)) fun b7=>hpv prog (Instr.makeInterface bg (.pointer (some ⟨b7,0,none⟩))) encV fun (v8:Value)=>K v8)
theorem sim_trap_Of (a0:Int) {K:Value->Hp->Prop} {h:Hp} (H:sh_trap_Of a0 K h):cl prog kA [(.int .i64 a0)] iu K h:=z_i func150 p p fun _=>O<|U p<|am<|O<|M p<|J (bR p p)<|ae<|aw p H (fun k1 H2=>O<|U p<|ak<|Z ⟨Value.nilIface,p,H2⟩) fun k1 H2=>ap<|O<|M p<|J (aZ p<|build_254_0_1 a0 (-1))<|aa<|hU p p p H2 fun b7 _ H3=>aa<|aS H3 (gy p) p fun v8 _ H4=>U p<|ak<|Z ⟨v8,p,H4⟩
def mJ (K:(Ptr × Bool)->Hp->Prop) (b4:Nat) (s2:Bool):Hp->Prop:=br s2 ( K (none,false)) ( ld (b4,0) cP fun x13=>K (x13,true))
def uQ (a0:Value) (K:(Ptr × Bool)->Hp->Prop):Hp->Prop:=nw bg [pv none] fun b4=>hpv prog (Instr.makeInterface bB (.pointer (some ⟨b4,0,none⟩))) encV fun (v6:Value)=>cl prog uv [a0,v6] aB fun r7=>br (!(!r7)) ( ld (b4,0) cP fun x10=>mJ K b4 x10.isNone) ( mJ K b4 true)
theorem sim_trap_First (a0:Value) {K:(Ptr × Bool)->Hp->Prop} {h:Hp} (H:uQ a0 K h):cl prog jX [a0] eF K h:=z_i func222 p p fun _=>O<|J (av p)<|U p<|O<|aa<|to_alloc zero_252 p p H fun b4 _ H1=>ae<|am<|eq (mJ K b4) (fun s2=>[(4,(.pointer (some ⟨b4,0,none⟩))),(12,(.bool s2))]) (fun s2=>[]) (aq<|M p<|aa<|aS H1 (gy p) p fun v6 _ H7=>aa<|D H7 en_227 fun r7 _ H8=>J (ct p)<|M p<|bU H8 (fun k10 H11=>G (F<|cg k10)<|aV H11 sc_252 p (fun _=>p) p fun x10 H12=>G (F<|cg k10)<|z_p (cm underlying252 p)<|J (au p (cg k10) p)<|ae<|cF x10.isNone H12 (.cons p<|.cons p<|.nil _) .slnil) fun k10 H11=>Y (bY<|bG k10)<|Y (bY<|bG k10)<|J (aT p (bG k10) p)<|ae<|cF true H11 (.cons p<|.cons p<|.nil _) .slnil) fun s2 _ H3=>aw p H3 (fun k4 H5=>O<|J (av p)<|U p<|ak<|bz (bT p (cc p)<|cc p) ⟨(none,false),p,H5⟩) fun k4 H5=>ap<|O<|aa<|aV H5 sc_252 p (fun _=>p) p fun x13 H6=>J (av p)<|U p<|ak<|bz (bT p (cc p)<|cc p) ⟨(x13,true),p,H6⟩
def sh_trap_Code (a0:Value) (K:Int->Hp->Prop):Hp->Prop:=hpv prog (do eqGuard .eql 199 (.tmp 5) (.const Value.nilIface) a0 Value.nilIface; binOp .eql 199 a0 Value.nilIface:Sem Value) aB fun (v6:Bool)=>br v6 ( K 0) ( cl prog jX [a0] eF fun r9=>br r9.2 ( nn r9.1 fun q14=>ld (q14.1,q14.2 + 0) (cI .i64) fun x16=>K x16) ( K 9))
theorem sim_trap_Code (a0:Value) {K:Int->Hp->Prop} {h:Hp} (H:sh_trap_Code a0 K h):cl prog us [a0] bh K h:=z_i func208 p p fun _=>O<|U p<|am<|O<|M p<|aa<|aS H (gn p p) p fun v6 _ H1=>ae<|aw p H1 (fun k2 H3=>O<|U p<|ak<|Z ⟨0,p,H3⟩) fun k2 H3=>ap<|am<|O<|M p<|aa<|D H3 en_222 fun r9 _ H4=>M p<|J (al p p)<|J (al p p)<|J (av p)<|U p<|O<|M p<|ae<|aw p H4 (fun k5 H6=>O<|M p<|bI H6 fun q14 e7 H8=>J (aH<|aM p<|ar e7)<|J (ah vV p)<|aa<|aV H8 mT p (fun _=>p) p fun x16 H9=>U p<|ak<|Z ⟨x16,p,H9⟩) fun k5 H6=>ap<|O<|U p<|ak<|Z ⟨9,p,H6⟩
def sh_trap_In (a0:Int) (a1:ai) (a2:Value) (K:Value->Hp->Prop):Hp->Prop:=hpv prog (do eqGuard .eql 199 (.tmp 7) (.const Value.nilIface) a2 Value.nilIface; binOp .eql 199 a2 Value.nilIface:Sem Value) aB fun (v8:Bool)=>br v8 ( K Value.nilIface) ( cl prog us [a2] bh fun r10=>hpv prog (Instr.build nE #[(0,(.int .i64 r10)),(1,(.int .i64 a0)),(2,(.agg (ai.C a1).toArray)),(3,a2)]) R_trap_Trap fun (v14:bX)=>nw nE (bX.C v14) fun b15=>hpv prog (Instr.makeInterface bg (.pointer (some ⟨b15,0,none⟩))) encV fun (v16:Value)=>K v16)
theorem sim_trap_In (a0:Int) (a1:ai) (a2:Value) {K:Value->Hp->Prop} {h:Hp} (H:sh_trap_In a0 a1 a2 K h):cl prog n_trap_In [(.int .i64 a0),(.agg (ai.C a1).toArray),a2] iu K h:=z_i func186 p p fun _=>O<|aa<|cK (l:=ai.C a1) p p p fun b4=>U p<|am<|O<|M p<|aa<|aS H (gn p p) p fun v8 _ H1=>ae<|aw p H1 (fun k2 H3=>O<|U p<|ak<|Z ⟨Value.nilIface,p,H3⟩) fun k2 H3=>ap<|am<|bp (n:=9) [bx b4 34 (ai.C a1)] cr p (.cons_cons _ .slnil)<|V 0 p (aj p)<|V 2 p (aj p)<|z_E 3 p (eC (k:=0) ff p p p p)<|V 4 p (aj p)<|I 1 p<|D H3 en_208 fun r10 _ H4=>⟨.cons_cons _ .slnil,I 5 p<|aS H4 (x_build (vs:=[(.int .i64 r10),(.int .i64 a0),(.agg (ai.C a1).toArray),a2]) p) p fun v14 _ H5=>⟨.cons_cons _ .slnil,I 6 p<|hU p p p H5 fun b15 _ H6=>⟨.cons_cons _ .slnil,I 7 p<|aS H6 (gy p) p fun v16 _ H7=>⟨.cons_cons _ .slnil,V 8 p (av p)<|aW (by kernel_rfl)<|ak<|Z ⟨v16,p,H7⟩⟩⟩⟩⟩
def mK (K:Int->Hp->Prop) (Rec3:(Int × Ptr × Bool)->Hp->Prop) (s2:Int × Ptr × Bool):Hp->Prop:=br s2.2.2 ( nn s2.2.1 fun q14=>ld (q14.1,q14.2 + 7) cV fun x16=>cl prog jX [x16] eF fun r17=>Rec3 ((i64.wrap (s2.1 + 1)),r17.1,r17.2)) ( K s2.1)
def sh_trap_Depth (a0:Value) (K:Int->Hp->Prop):Hp->Prop:=cl prog jX [a0] eF fun r8=>Lp (mK K) (0,r8.1,r8.2)
theorem sim_trap_Depth (a0:Value) {K:Int->Hp->Prop} {h:Hp} (H:sh_trap_Depth a0 K h):cl prog xa [a0] eA K h:=z_i func228 p p fun _=>O<|U p<|O<|U p<|am<|O<|M p<|aa<|D H en_222 fun r8 _ H1=>M p<|J (al p p)<|J (al p p)<|J (av p)<|U p<|az<|bC (step:=mK K) (fun s2=>[(3,(.int .i64 s2.1)),(4,(pv s2.2.1)),(5,(.bool s2.2.2))]) (fun s2=>[]) H1 (.cons p<|.cons p<|.cons p<|.nil _) .slnil fun Rec3 s2 _ H4=>am<|O<|M p<|ae<|aw p H4 (fun k5 H6=>ap<|am<|az<|aq<|M p<|J (bo p p)<|U p<|aq<|M p<|bI H6 fun q14 e7 H8=>J (aH<|aM p<|ar e7)<|J (ah fld_254_3 p)<|aa<|aV H8 sc_199 p (fun _=>p) p fun x16 H9=>aa<|D H9 en_222 fun r17 _ H10=>M p<|J (al p p)<|J (al p p)<|J (av p)<|U p<|cL ((i64.wrap (s2.1 + 1)),r17.1,r17.2) H10 (.cons p<|.cons p<|.cons p<|.nil _) .slnil) fun k5 H6=>bj<|O<|M p<|U p<|ak<|Z ⟨s2.1,p,H6⟩
def nk (a0:Ptr) (K:ByteArray->Hp->Prop):Hp->Prop:=br a0.isNone ( K (⟨#[]⟩:ByteArray)) ( nn a0 fun q7=>ld (q7.1,q7.2 + 0) (cI .i64) fun x9=>cl prog ta [(.int .i64 x9)] dQ fun r10=>hpv prog (do eqGuard .add 9 (.const (.string (⟨#[116,114,97,112,32]⟩:ByteArray))) (.tmp 10) (.string (⟨#[116,114,97,112,32]⟩:ByteArray)) (.string r10); binOp .add 9 (.string (⟨#[116,114,97,112,32]⟩:ByteArray)) (.string r10):Sem Value) dQ fun (v11:ByteArray)=>ld (q7.1,q7.2 + 7) cV fun x15=>hpv prog (do eqGuard .neq 199 (.tmp 15) (.const Value.nilIface) x15 Value.nilIface; binOp .neq 199 x15 Value.nilIface:Sem Value) aB fun (v16:Bool)=>br v16 ( ld (q7.1,q7.2 + 7) cV fun x21=>cln prog (callMethod x21 "Error" #[]) dQ fun (v22:ByteArray)=>hpv prog (do eqGuard .add 9 (.const (.string (⟨#[58,32]⟩:ByteArray))) (.tmp 22) (.string (⟨#[58,32]⟩:ByteArray)) (.string v22); binOp .add 9 (.string (⟨#[58,32]⟩:ByteArray)) (.string v22):Sem Value) dQ fun (v23:ByteArray)=>hpv prog (do eqGuard .add 9 (.tmp 17) (.tmp 23) (.string v11) (.string v23); binOp .add 9 (.string v11) (.string v23):Sem Value) dQ fun (v24:ByteArray)=>K v24) ( K v11))
theorem rx (a0:Ptr) {K:ByteArray->Hp->Prop} {h:Hp} (H:nk a0 K h):cl prog iP [(pv a0)] dQ K h:=z_i func253 p p fun _=>O<|U p<|am<|O<|M p<|J (cm underlying252 p)<|ae<|aw p H (fun k1 H2=>O<|U p<|ak<|Z ⟨(⟨#[]⟩:ByteArray),p,H2⟩) fun k1 H2=>ap<|O<|M p<|bI H2 fun q7 e3 H4=>J (aH<|aM p<|ar e3)<|J (ah vV p)<|aa<|aV H4 mT p (fun _=>p) p fun x9 H5=>aa<|D H5 en_256 fun r10 _ H6=>aa<|aS H6 (gn p p) p fun v11 _ H7=>U p<|am<|O<|M (aM p<|ar e3)<|J (aH p)<|J (ah fld_254_3 p)<|aa<|aV H7 sc_199 p (fun _=>p) p fun x15 H8=>aa<|aS H8 (gn p p) p fun v16 _ H9=>ae<|aw p H9 (fun k10 H11=>aq<|M p<|M (aM p<|ar e3)<|J (aH p)<|J (ah fld_254_3 p)<|aa<|aV H11 sc_199 p (fun _=>p) p fun x21 H12=>aa<|gb H12 (ga (vs:=[]) p p) p fun v22 _ H13=>aa<|aS H13 (gn p p) p fun v23 _ H14=>aa<|aS H14 (gn p p) p fun v24 _ H15=>U p<|O<|M p<|U p<|ak<|Z ⟨v24,p,H15⟩) fun k10 H11=>ap<|O<|M p<|U p<|ak<|Z ⟨v11,p,H11⟩
def sh_trap_Trap_Is (a0:Ptr) (a1:Value) (K:Bool->Hp->Prop):Hp->Prop:=hpv prog (Instr.typeAssert a1 gq bg true) eF fun (v9:Ptr × Bool)=>br v9.2 ( br (!a0.isNone) ( br (!v9.1.isNone) ( nn a0 fun q23=>nn v9.1 fun q27=>ld (q23.1,q23.2 + 0) (cI .i64) fun x25=>ld (q27.1,q27.2 + 0) (cI .i64) fun x29=>K (x25 == x29)) ( K false)) ( K false)) ( K false)
theorem sim_trap_Trap_Is (a0:Ptr) (a1:Value) {K:Bool->Hp->Prop} {h:Hp} (H:sh_trap_Trap_Is a0 a1 K h):cl prog sY [(pv a0),a1] aB K h:=z_i func254 p p fun _=>O<|U p<|O<|M p<|aa<|aS H (fY p) p fun v9 _ H1=>M p<|J (al p p)<|J (al p p)<|J (av p)<|U p<|am<|bp (n:=21) [] cr p .slnil<|V 0 p (aj p)<|V 1 p (aj p)<|qj H1 (fun k2 H3=>z_n 2 p (F k2) (ve<|aj p)<|z_n 3 p (F k2) (ve<|v_pneT underlying252 p)<|V 4 p (aT p k2 p)<|V 5 p (aj p)<|qj H3 (fun k4 H5=>z_n 6 p (F k4) (ve<|aj p)<|z_n 7 p (F k4) (ve<|v_pneT underlying252 p)<|V 8 p (aT p k4 p)<|V 9 p (aj p)<|qj H5 (fun k6 H7=>z_n 10 p (F k6) (ve<|aj p)<|z_n 14 p (F k6) (ve<|aj p)<|gQ H7 fun q23 e8 H9=>z_n 11 p (F k6) (ve<|aH<|aM p<|ar e8)<|z_n 12 p (F k6) (ve<|ah vV p)<|gQ H9 fun q27 e10 H11=>z_n 15 p (F k6) (ve<|aH<|aM p<|ar e10)<|z_n 16 p (F k6) (ve<|ah vV p)<|ms (i:=13) (fun _ _ _ _ hh=>hh) H11 p (by kernel_rfl) p p p (F k6) mT p (fun _=>p) p fun x25 H12=>ms (i:=17) (fun _ _ _ _ hh=>hh) H12 p (by kernel_rfl) p p p (F k6) mT p (fun _=>p) p fun x29 H13=>z_n 18 p (F k6) (ve<|bR p p)<|V 19 p (aT p k6 p)<|V 20 p (av p)<|aW (by kernel_rfl)<|ak<|Z ⟨(x25 == x29),p,H13⟩) fun k6 H7=>z_f 10 p (aU k6)<|z_f 11 p (aU k6)<|z_f 12 p (aU k6)<|z_f 13 p (aU k6)<|z_f 14 p (aU k6)<|z_f 15 p (aU k6)<|z_f 16 p (aU k6)<|z_f 17 p (aU k6)<|z_f 18 p (aU k6)<|V 19 p (au p k6 p)<|V 20 p (av p)<|aW (by kernel_rfl)<|ak<|Z ⟨false,p,H7⟩) fun k4 H5=>z_f 6 p (aU k4)<|z_f 7 p (aU k4)<|V 8 p (au p k4 p)<|V 9 p (aj p)<|z_f 10 p p<|z_f 11 p p<|z_f 12 p p<|z_f 13 p p<|z_f 14 p p<|z_f 15 p p<|z_f 16 p p<|z_f 17 p p<|z_f 18 p p<|V 19 p (au p p p)<|V 20 p (av p)<|aW (by kernel_rfl)<|ak<|Z ⟨false,p,H5⟩) fun k2 H3=>z_f 2 p (aU k2)<|z_f 3 p (aU k2)<|V 4 p (au p k2 p)<|V 5 p (aj p)<|z_f 6 p p<|z_f 7 p p<|V 8 p (au p p p)<|V 9 p (aj p)<|z_f 10 p p<|z_f 11 p p<|z_f 12 p p<|z_f 13 p p<|z_f 14 p p<|z_f 15 p p<|z_f 16 p p<|z_f 17 p p<|z_f 18 p p<|V 19 p (au p p p)<|V 20 p (av p)<|aW (by kernel_rfl)<|ak<|Z ⟨false,p,H3⟩
def ry (a0:Ptr) (K:Value->Hp->Prop):Hp->Prop:=br a0.isNone ( K Value.nilIface) ( nn a0 fun q6=>ld (q6.1,q6.2 + 7) cV fun x8=>K x8)
theorem sim_trap_Trap_Unwrap (a0:Ptr) {K:Value->Hp->Prop} {h:Hp} (H:ry a0 K h):cl prog np [(pv a0)] iu K h:=z_i func255 p p fun _=>O<|U p<|am<|O<|M p<|J (cm underlying252 p)<|ae<|aw p H (fun k1 H2=>O<|U p<|ak<|Z ⟨Value.nilIface,p,H2⟩) fun k1 H2=>ap<|O<|M p<|bI H2 fun q6 e3 H4=>J (aH<|aM p<|ar e3)<|J (ah fld_254_3 p)<|aa<|aV H4 sc_199 p (fun _=>p) p fun x8 H5=>U p<|ak<|Z ⟨x8,p,H5⟩
end
section
open Go Mb
variable {ET:Nat} {EF:Nat × Nat}
abbrev dw (b:Nat):Value:=.iface bg (.pointer (some ⟨b,0,none⟩))
theorem g0:prog.globals.size = 4:=by kernel_rfl
theorem g1:typeHandle prog bg = pv (some (4,bg)):=by kernel_rfl
theorem g2:(prog.globals[0]?).map (·.type) = some 249:=by kernel_rfl
theorem oneErr:((List.range 351).filter fun t=>prog.rowNamed t [101,114,114,111,114]) = [199]:=by kernel_rfl
theorem g4:prog.types.size = 351:=by kernel_rfl
abbrev rtV (T:Nat):Value:=.iface rv (.agg #[pv (some (4,T))])
abbrev vl (T c f:Nat):aL:=⟨some (4,T),some (c,0),f⟩
abbrev vlV (T c f:Nat):Value:=.agg (aL.C (vl T c f)).toArray
section
variable (b:Nat) (K:Next->Hp->Prop) (h:Hp)
theorem x7:hp prog (callFunc ge #[dw b]) K h = K (.value (rtV bg)) h:=by kernel_rfl
theorem x8:hp prog (callFunc cX #[.iface bB (.pointer (some ⟨b,0,none⟩))]) K h = (true = true/\∀ e,h e = none->K (.value (vlV bB e 150)) (dU h e (.cells #[pv (some (b,0))] bB (0,0)))):=by kernel_rfl
theorem x8':hp prog (callFunc cX #[dw b]) K h = (true = true/\∀ e,h e = none->K (.value (vlV bg e 150)) (dU h e (.cells #[pv (some (b,0))] bg (0,0)))):=by kernel_rfl
theorem x10:hp prog (callMethod (rtV bB) "Kind" #[]) K h = K (.value (.int .u8 22)) h:=by kernel_rfl
theorem x11:hp prog (callMethod (rtV bB) "Elem" #[]) K h = K (.value (rtV bg)) h:=by kernel_rfl
theorem x12:hp prog (callMethod (rtV bg) "Kind" #[]) K h = K (.value (.int .u8 22)) h:=by kernel_rfl
theorem x13:hp prog (callMethod (rtV bg) "Comparable" #[]) K h = K (.value (.bool true)) h:=by kernel_rfl
theorem x14:hp prog (callMethod (rtV bg) "AssignableTo" #[rtV bg]) K h = K (.value (.bool true)) h:=by kernel_rfl
theorem x15 (c:Nat):hp prog (callFunc iv #[vlV bB c 150]) K h = K (.value (rtV bB)) h:=by kernel_rfl
theorem x16 (c:Nat):hp prog (callFunc eS #[vlV bB c 150]) K h =
 hp prog (do let r ← Extern.ReflectliteValue.isNil bB ⟨c,0,none⟩ 150 22; pure (.value r)) K h:=by kernel_rfl
theorem x17:hp prog (callMethod (rtV bg) "Implements" #[rtV gq]) K h = K (.value (.bool true)) h:=by kernel_rfl
theorem x18 (c:Nat):hp prog (callFunc ft #[vlV bB c 150]) K h =
 hp prog (do let r ← Extern.ReflectliteValue.elem bB ⟨c,0,none⟩ 150 22; pure (.value r)) K h:=by kernel_rfl
theorem x19 (c d:Nat):hp prog (callFunc fz #[vlV bg c 406,vlV bg d 150]) K h =
 hp prog (do let r ← (do let v ← loadVar bg ⟨d,0,none⟩; storeVar bg ⟨c,0,none⟩ v; pure (Value.tuple #[])); pure (.value r)) K h:=by kernel_rfl
theorem y1 (c:Nat) (K:Value->Hp->Prop):hp prog (loadVar bB ⟨c,0,none⟩) K h = ∃ v,la h ⟨c,0,none⟩ = some v/\K v h:=by kernel_rfl
theorem y2 (c:Nat) (K:Value->Hp->Prop):hp prog (loadVar bg ⟨c,0,none⟩) K h = ∃ v,la h ⟨c,0,none⟩ = some v/\K v h:=by kernel_rfl
theorem y3 (b:Nat) (K:Value->Hp->Prop):hp prog (Extern.ReflectliteValue.mk bg ⟨b,0,none⟩ Extern.ReflectliteValue.flagAddr) K h = K (vlV bg b 406) h:=by kernel_rfl
theorem y4 (K:Option TypeId->Hp->Prop):hp prog (Extern.Rtype.elem? bB) K h = K (some bg) h:=by kernel_rfl
theorem y5 (b c:Nat) (K:Unit->Hp->Prop):hp prog (storeVar bg ⟨c,0,none⟩ (.pointer (some ⟨b,0,none⟩))) K h = hp prog (storeCells ⟨c,0,none⟩ [.pointer (some ⟨b,0,none⟩)]) K h:=by kernel_rfl
theorem y6 (K:Value->Hp->Prop) {a b n m:Nat}:hp prog (do eqGuard .eql 199 (.tmp n) (.tmp m) (dw a) (dw b); binOp .eql 199 (dw a) (dw b):Sem Value) K h = hp prog (do let r ← sameAddr ⟨a,0,none⟩ ⟨b,0,none⟩; pure (.bool r)) K h:=by kernel_rfl
theorem x25 (K:Bool->Hp->Prop) {a b:Nat} {ca cb:List Value} {Ta Tb:Nat} (ha:h a = some (.cells ca.toArray Ta (0,0))) (hb:h b = some (.cells cb.toArray Tb (0,0))) (H:K (a == b) h):hp prog (sameAddr ⟨a,0,none⟩ ⟨b,0,none⟩) K h:=by
 unfold sameAddr
 rcases Decidable.em (a = b) with e | e
 ·subst e
  rw [if_pos (by simp)]
  have H':K true h:=by simpa using H
  simpa [xm] using H'
 ·rw [if_neg (by simpa using e)]
  have fa:∀ (K:Bool->Hp->Prop) (o:Nat),hp prog (frozen ⟨a,o,none⟩) K h↔K false h:=fun K o =>
   ⟨fun ⟨o',h1,h2⟩=>by rw [ha] at h1; cases h1; simpa [hp,uo] using h2,fun h2=>⟨_,ha,by simpa [hp,uo] using h2⟩⟩
  have fb:∀ (K:Bool->Hp->Prop) (o:Nat),hp prog (frozen ⟨b,o,none⟩) K h↔K false h:=fun K o =>
   ⟨fun ⟨o',h1,h2⟩=>by rw [hb] at h1; cases h1; simpa [hp,uo] using h2,fun h2=>⟨_,hb,by simpa [hp,uo] using h2⟩⟩
  have sa:∀ (K:Option (TypeId × Nat)->Hp->Prop),hp prog (shape a) K h↔K (some (Ta,ca.length)) h:=fun K =>
   ⟨fun ⟨o',h1,h2⟩=>by rw [ha] at h1; cases h1; simpa [hp,oshape] using h2,fun h2=>⟨_,ha,by simpa [hp,oshape] using h2⟩⟩
  have sb:∀ (K:Option (TypeId × Nat)->Hp->Prop),hp prog (shape b) K h↔K (some (Tb,cb.length)) h:=fun K =>
   ⟨fun ⟨o',h1,h2⟩=>by rw [hb] at h1; cases h1; simpa [hp,oshape] using h2,fun h2=>⟨_,hb,by simpa [hp,oshape] using h2⟩⟩
  have eb:(a == b) = false:=by simpa using e
  rw [eb] at H
  simp [cU,fa,fb,sa,sb,noView,viewAt,mayBeOne,stringish,xm,H]
end
section
variable {P:Program} {τ:Type} {enc:τ->Value} {K:τ->Hp->Prop} {h:Hp}
theorem fA {m:Sem Value} (r:τ) (e:∀ (K:Value->Hp->Prop) h,hp P m K h = K (enc r) h) (k:K r h):hpv P m enc K h:=⟨by rw [e]; exact ⟨r,rfl,k⟩⟩
theorem tz {m:Sem Next} (r:τ) (e:∀ (K:Next->Hp->Prop) h,hp P m K h = K (.value (enc r)) h) (k:K r h):cln P m enc K h:=⟨by rw [e]; exact .inl ⟨r,rfl,k⟩⟩
theorem cln_en {m:Sem Next} {f:FuncId} {vs:List Value} (e:∀ (K:Next->Hp->Prop) h,hp P m K h = K (.enter f vs.toArray) h) (k:cl P f vs enc K h):cln P m enc K h:=⟨by rw [e]; exact .inr ⟨f,_,rfl,k⟩⟩
end
abbrev etB (ET:Nat) (EF:Nat × Nat):As:=obj 0 (.cells #[rtV gq] ET EF)
abbrev trB (b:Nat) (t:bX):As:=blk b nE (bX.C t)
theorem en_0 (b n:Nat) (K:Value->Hp->Prop) (h:Hp):hp prog (do eqGuard .eql 199 (.tmp n) (.const Value.nilIface) (dw b) Value.nilIface; binOp .eql 199 (dw b) Value.nilIface:Sem Value) K h = K (.bool false) h:=by kernel_rfl
theorem en_00 (n:Nat) (K:Value->Hp->Prop) (h:Hp):hp prog (do eqGuard .eql 199 (.tmp n) (.const Value.nilIface) Value.nilIface Value.nilIface; binOp .eql 199 Value.nilIface Value.nilIface:Sem Value) K h = K (.bool true) h:=by kernel_rfl
theorem en_1 (b n:Nat) (K:Value->Hp->Prop) (h:Hp):hp prog (do eqGuard .eql 20 (.tmp n) (.const Value.nilIface) (.iface bB (.pointer (some ⟨b,0,none⟩))) Value.nilIface; binOp .eql 20 (.iface bB (.pointer (some ⟨b,0,none⟩))) Value.nilIface:Sem Value) K h = K (.bool false) h:=by kernel_rfl
theorem sp_As_nil (v:Value):Sp prog uv [Value.nilIface,v] aB [] (fun r=>pa_ (r = false) []):=by
 intro h st
 refine sim_errors_As _ _ ?_
 unfold wR
 exact fA true (en_00 _) (dN rfl (aX rfl st))
section
variable {h:Hp} {b c d:Nat}
theorem c22 {K:Bool->Hp->Prop} (e:la h ⟨c,0,none⟩ = some (.pointer (some ⟨b,0,none⟩))) (H:K false h):cln prog (callFunc eS #[vlV bB c 150]) aB K h:=by
 constructor
 rw [x16,cU]
 unfold Extern.ReflectliteValue.isNil
 rw [if_neg (by decide)]
 rw [cU,y1]; exact ⟨_,e,.inl ⟨false,rfl,H⟩⟩
theorem c23 {K:aL->Hp->Prop} (e:la h ⟨c,0,none⟩ = some (.pointer (some ⟨b,0,none⟩))) (H:K (vl bg b 406) h):cln prog (callFunc ft #[vlV bB c 150]) fD K h:=by
 constructor
 rw [x18,cU]
 unfold Extern.ReflectliteValue.elem
 rw [if_neg (by decide),cU,y1]
 refine ⟨_,e,?_⟩
 rw [cU,y4]
 show hp _ (Extern.ReflectliteValue.mk _ _ _) _ h
 rw [y3]; exact .inl ⟨_,rfl,H⟩
theorem c24 {K:Unit->Hp->Prop} (e:la h ⟨d,0,none⟩ = some (.pointer (some ⟨b,0,none⟩))) (H:hp prog (storeCells ⟨c,0,none⟩ [.pointer (some ⟨b,0,none⟩)]) (fun _=>K ()) h):cln prog (callFunc fz #[vlV bg c 406,vlV bg d 150]) R_ K h:=by
 constructor
 rw [x19,cU,cU,y2]; refine ⟨_,e,?_⟩
 rw [cU,y5]; exact hp_mono _ (fun _ _ k=>.inl ⟨(),rfl,k⟩) _ H
theorem c8 {K:aL->Hp->Prop} (H:∀ e,h e = none->K (vl bB e 150) (dU h e (.cells #[pv (some (b,0))] bB (0,0)))):cln prog (callFunc cX #[.iface bB (.pointer (some ⟨b,0,none⟩))]) fD K h:=by
 constructor
 rw [x8]
 exact ⟨rfl,fun e he=>.inl ⟨_,rfl,H e he⟩⟩
theorem c8' {K:aL->Hp->Prop} (H:∀ e,h e = none->K (vl bg e 150) (dU h e (.cells #[pv (some (b,0))] bg (0,0)))):cln prog (callFunc cX #[dw b]) fD K h:=by
 constructor
 rw [x8']
 exact ⟨rfl,fun e he=>.inl ⟨_,rfl,H e he⟩⟩
end
theorem blk_cell {l:List As} {h:Hp} {i b:Nat} {T:TypeId} {c:List Value} {v:Value} (hi:l[i]? = some (blk b T c)) (hv:c[0]? = some v) (s:aE l h):la h ⟨b,0,none⟩ = some v:=by
 obtain ⟨g1,a1,sub1⟩:=dP hi s
 have:=sub1 _ _ a1
 unfold la
 rw [this]
 simpa using hv
theorem sp_as (b c d:Nat) (p:Ptr):Sp prog uu [dw b,.iface bB (.pointer (some ⟨c,0,none⟩)),vlV bB d 150,rtV bg] aB
  [blk c bg [pv p],blk d bB [pv (some (c,0))]] (fun r=>pa_ (r = true) [blk c bg [pv (some (b,0))]]):=by
 intro h st
 refine sim_errors_as _ _ _ _ ?_
 unfold sh_errors_as
 refine ⟨fun s h=>s = dw b/\aE [blk c bg [pv p],blk d bB [pv (some (c,0))]] h,fun _ _=>0,⟨rfl,st⟩,?_⟩
 rintro _ h1 ⟨rfl,s1⟩
 unfold xt
 refine tz (rtV bg) (fun K h=>x7 b K h) ?_
 refine tz true (fun K h=>x14 K h) (dN rfl ?_)
 refine c23 (blk_cell (i:=1) rfl rfl s1) ?_
 refine c8' fun e he=>?_
 have s2:aE (blk e bg [pv (some (b,0))]::_) _:=new_s (o:=.cells #[pv (some (b,0))] bg (0,0)) s1 he
 refine c24 (blk_cell (i:=0) (T:=bg) (c:=[pv (some (b,0))]) rfl rfl s2) ?_
 obtain ⟨g2,a2,sub2⟩:=dP (i:=1) (A:=blk c bg [pv p]) rfl s2
 refine hp_storeCells _ 0 0 [pv p] _ (sub2 _ _ a2) (by simp) rfl ?_
 have s3:aE (_::blk c bg [pv (some (b,0))]::_) _:=obj_set (o':=.cells #[pv (some (b,0))] bg (0,0)) (i:=1) s2 rfl
 exact aX rfl (cd (l:=[_,_]) (bc [0,1] s3 rfl))
theorem sp_As (b c:Nat) (p:Ptr):Sp prog uv [dw b,.iface bB (.pointer (some ⟨c,0,none⟩))] aB
  [(etB ET EF),blk c bg [pv p]] (fun r=>pa_ (r = true) [(etB ET EF),blk c bg [pv (some (b,0))]]):=by
 intro h st
 refine sim_errors_As _ _ ?_
 unfold wR
 refine fA false (en_0 b _) (dp rfl ?_)
 refine fA false (en_1 c _) (dp rfl ?_)
 unfold xw
 refine c8 fun e he=>?_
 have s2:aE (blk e bB [pv (some (c,0))]::_) _:=new_s (o:=.cells #[pv (some (c,0))] bB (0,0)) st he
 refine tz (rtV bB) (fun K h=>x15 K h e) ?_
 refine tz 22 (fun K h=>x10 K h) (dN rfl ?_)
 refine c22 (blk_cell (i:=0) (T:=bB) (c:=[pv (some (c,0))]) rfl rfl s2) (dp rfl ?_)
 unfold xv
 refine tz (rtV bg) (fun K h=>x11 K h) ?_
 refine tz 22 (fun K h=>x12 K h) (dN rfl ?_)
 obtain ⟨g3,a3,sub3⟩:=dP (i:=1) (A:=etB ET EF) rfl s2
 refine ⟨rtV gq,⟨_,_,_,sub3 _ _ a3,fun i v hv=>?_⟩,?_⟩
 ·rcases i with _ | i <;> first | exact hv | simp [cV] at hv
 refine tz true (fun K h=>x17 K h) (dp rfl ?_)
 unfold sj
 refine cQ [2,0,1] (rest:=[(etB ET EF)]) (sp_as b c e p) s2 rfl fun r h' s3=>?_
 obtain ⟨rfl,s4⟩:=bu.1 s3
 exact aX rfl (bc [1,0] s4 rfl)
abbrev firstOf (b:Nat):Ptr × Bool:=(some (b,0),true)
theorem sp_First (b:Nat):Sp prog jX [dw b] eF [(etB ET EF)] (fun r=>pa_ (r = firstOf b) [(etB ET EF)]):=by
 intro h st
 refine sim_trap_First _ ?_
 unfold uQ
 refine pn st fun c h1 s1=>?_
 refine fA (.iface bB (.pointer (some ⟨c,0,none⟩))) (fun K h=>by kernel_rfl) ?_
 refine cQ [1,0] (rest:=[]) (sp_As b c none) s1 rfl fun r h' s2=>?_
 obtain ⟨rfl,s3⟩:=bu.1 s2
 refine dN rfl ?_
 refine bn (some (b,0)) s3 (i:=1) rfl rfl rfl ?_
 unfold mJ
 refine dp rfl ?_
 refine bn (some (b,0)) s3 (i:=1) rfl rfl rfl ?_
 exact aX rfl (cd (l:=[_]) (bc [1] s3 rfl))
theorem sp_First_nil:Sp prog jX [Value.nilIface] eF [] (fun r=>pa_ (r = (none,false)) []):=by
 intro h st
 refine sim_trap_First _ ?_
 unfold uQ
 refine pn st fun c h1 s1=>?_
 refine fA (.iface bB (.pointer (some ⟨c,0,none⟩))) (fun K h=>by kernel_rfl) ?_
 refine tJ (sp_As_nil _) s1 fun r h' hr s2=>?_
 subst hr
 refine dp rfl ?_
 unfold mJ
 exact dN rfl (aX rfl trivial)
theorem sp_Of (n:Int) (hn:n ≠ 0):Sp prog kA [.int .i64 n] iu [] (fun r=>ex fun b=>pa_ (r = dw b) [trB b ⟨n,-1,⟨0,0,0,0,0⟩,.nilIface⟩]):=by
 intro h st
 refine sim_trap_Of _ ?_
 unfold sh_trap_Of
 refine dp (by simpa using hn) ?_
 refine pn st fun b h1 s1=>?_
 refine fA (dw b) (fun K h=>by kernel_rfl) ?_
 exact ⟨b,aX rfl s1⟩
theorem sp_Of0:Sp prog kA [.int .i64 0] iu [] (fun r=>pa_ (r = Value.nilIface) []):=by
 intro h st
 refine sim_trap_Of _ ?_
 unfold sh_trap_Of
 exact dN rfl (aX rfl st)
theorem sp_Code (b:Nat) (t:bX):Sp prog us [dw b] bh [(etB ET EF),trB b t] (fun r=>pa_ (r = t.fDb) [(etB ET EF),trB b t]):=by
 intro h st
 refine sim_trap_Code _ ?_
 unfold sh_trap_Code
 refine fA false (en_0 b _) (dp rfl ?_)
 refine bQ (i:=0) (sp_First b) rfl st fun r h' hr s2=>?_
 subst hr
 refine dN rfl (cD ?_)
 refine bn t.fDb s2 (i:=1) rfl rfl rfl ?_
 exact aX rfl s2
theorem sp_In (env:Int) (c:ai) (b:Nat) (t:bX):Sp prog n_trap_In [.int .i64 env,.agg (ai.C c).toArray,dw b] iu [(etB ET EF),trB b t]
  (fun r=>ex fun e=>pa_ (r = dw e) [trB e ⟨t.fDb,env,c,dw b⟩,(etB ET EF),trB b t]):=by
 intro h st
 refine sim_trap_In _ _ _ ?_
 unfold sh_trap_In
 refine fA false (en_0 b _) (dp rfl ?_)
 refine cQ [] (rest:=[]) (sp_Code b t) st (List.append_nil _).symm fun r h' s2=>?_
 obtain ⟨rfl,s3⟩:=bu.1 s2
 refine fA ⟨t.fDb,env,c,dw b⟩ (fun K h=>by kernel_rfl) ?_
 refine pn s3 fun e h1 s4=>?_
 refine fA (dw e) (fun K h=>by kernel_rfl) ?_
 exact ⟨e,aX rfl s4⟩
theorem sp_Depth2 (b e:Nat) (t u:bX) (ht:t.fXa = dw e) (hu:u.fXa = Value.nilIface):Sp prog xa [dw b] eA [(etB ET EF),trB b t,trB e u] (fun r=>pa_ (r = 2) [(etB ET EF),trB b t,trB e u]):=by
 intro h st
 refine sim_trap_Depth _ ?_
 unfold sh_trap_Depth
 refine bQ (i:=0) (sp_First b) rfl st fun r h' hr s2=>?_
 subst hr
 refine ⟨fun s h=>(s = (0,some (b,0),true)\/s = (1,some (e,0),true)\/s = (2,none,false))/\aE [(etB ET EF),trB b t,trB e u] h,fun s _=>3 - s.1.toNat,⟨.inl rfl,s2⟩,?_⟩
 rintro s h1 ⟨rfl | rfl | rfl,s3⟩
 ·unfold mK
  refine dN rfl (cD ?_)
  refine bn t.fXa s3 (i:=1) rfl rfl rfl ?_
  rw [ht]
  refine bQ (i:=0) (sp_First e) rfl s3 fun r h' hr s4=>?_
  subst hr
  exact ⟨⟨.inr (.inl rfl),s4⟩,Nat.le_of_ble_eq_true rfl⟩
 ·unfold mK
  refine dN rfl (cD ?_)
  refine bn u.fXa s3 (i:=2) rfl rfl rfl ?_
  rw [hu]
  refine tJ sp_First_nil s3 fun r h' hr s4=>?_
  subst hr
  exact ⟨⟨.inr (.inr rfl),s4⟩,Nat.le_of_ble_eq_true rfl⟩
 ·unfold mK
  exact dp rfl (aX rfl s3)
end
section
open Go Mb
def sh_strconv_Itoa (a0:Int) (K:ByteArray->Hp->Prop):Hp->Prop:=cl prog jF [(.int .i64 a0)] dQ fun r4=>K r4
theorem sim_strconv_Itoa (a0:Int) {K:ByteArray->Hp->Prop} {h:Hp} (H:sh_strconv_Itoa a0 K h):cl prog ta [(.int .i64 a0)] dQ K h:=z_i func256 p p fun _=>O<|U p<|O<|M p<|aa<|D H en_257 fun r4 _ H1=>U p<|ak<|Z ⟨r4,p,H1⟩
end
section
open Go Mb
def mu (a0:Int) (K:ByteArray->Hp->Prop):Hp->Prop:=br (decide (a0 < 10)) ( hpv prog (Instr.sliceAt vb (.string str_73df774b) (some (.int .i64 a0)) (some (.int .i64 (i64.wrap (a0 + 1)))) none) dQ fun (v8:ByteArray)=>K v8) ( hpv prog (Instr.sliceAt vb (.string str_e9752c08) (some (.int .i64 (i64.wrap (a0 * 2)))) (some (.int .i64 (i64.wrap ((i64.wrap (a0 * 2)) + 2)))) none) dQ fun (v14:ByteArray)=>K v14)
theorem sI (a0:Int) {K:ByteArray->Hp->Prop} {h:Hp} (H:mu a0 K h):cl prog jh [(.int .i64 a0)] dQ K h:=z_i func259 p p fun _=>O<|U p<|am<|O<|M p<|J (cu p p)<|ae<|aw p H (fun k1 H2=>O<|M p<|M p<|J (bo p p)<|aa<|aS H2 (fj p p p p p) p fun v8 _ H3=>U p<|ak<|Z ⟨v8,p,H3⟩) fun k1 H2=>ap<|O<|M p<|J (v_mul p p)<|M p<|J (v_mul p p)<|J (bo p p)<|aa<|aS H2 (fj p p p p p) p fun v14 _ H4=>U p<|ak<|Z ⟨v14,p,H4⟩
def gg (a0:Int) (K:ByteArray->Hp->Prop) (b5:Nat) (s9:Int):Hp->Prop:=cl prog rl [(.int .u64 s9)] eA fun r27=>hpv prog (Instr.sliceAt wm (.pointer (some ⟨b5,0,none⟩)) (some (.int .i64 1)) (some (.int .i64 (i64.wrap (1 + r27)))) none) R_Suint8 fun (v30:Sl)=>cl prog pq [(sv v30),(.int .u64 s9)] R_ fun (_:Unit)=>br (decide (a0 < 0)) ( st (b5,0) [.int .u8 45]<|hpv prog (Instr.sliceAt wm (.pointer (some ⟨b5,0,none⟩)) none (some (.int .i64 (i64.wrap (1 + r27)))) none) R_Suint8 fun (v38:Sl)=>hpv prog (convert 329 9 (sv v38)) dQ fun (v39:ByteArray)=>K v39) ( hpv prog (Instr.sliceAt wm (.pointer (some ⟨b5,0,none⟩)) (some (.int .i64 1)) (some (.int .i64 (i64.wrap (1 + r27)))) none) R_Suint8 fun (v42:Sl)=>hpv prog (convert 329 9 (sv v42)) dQ fun (v43:ByteArray)=>K v43)
def jR (a0:Int) (a1:Int) (K:ByteArray->Hp->Prop):Hp->Prop:=br (a1 == 10) ( br ((decide (0 <= a0)) && (decide (a0 < 100))) ( cl prog jh [(.int .i64 a0)] dQ fun r19=>K r19) ( nw wm [.int .u8 0,.int .u8 0,.int .u8 0,.int .u8 0,.int .u8 0,.int .u8 0,.int .u8 0,.int .u8 0,.int .u8 0,.int .u8 0,.int .u8 0,.int .u8 0,.int .u8 0,.int .u8 0,.int .u8 0,.int .u8 0,.int .u8 0,.int .u8 0,.int .u8 0,.int .u8 0,.int .u8 0,.int .u8 0,.int .u8 0,.int .u8 0] fun b5=>br (decide (a0 < 0)) ( gg a0 K b5 (u64.wrap (0 - (u64.wrap a0)))) ( gg a0 K b5 (u64.wrap a0)))) ( cl prog qS [(sv (⟨none,0,0,none⟩:Sl)),(.int .u64 (u64.wrap a0)),(.int .i64 a1),(.bool (decide (a0 < 0))),(.bool false)] R_Suint8_string fun r50=>K r50.2)
theorem pV (a0:Int) (a1:Int) {K:ByteArray->Hp->Prop} {h:Hp} (H:jR a0 a1 K h):cl prog gC [(.int .i64 a0),(.int .i64 a1)] dQ K h:=z_i func258 p p fun _=>O<|U p<|am<|O<|M p<|J (bR p p)<|ae<|aw p H (fun k1 H2=>am<|O<|M p<|J (v_le p p)<|M p<|W p p (ay _) (fun g3=>wv<|aj p)<|W p p (ay _) (fun g4=>wv<|cu (aC p g4) p)<|J (bP p p)<|ae<|aw p H2 (fun k5 H6=>O<|M p<|aa<|D H6 en_259 fun r19 _ H7=>U p<|ak<|Z ⟨r19,p,H7⟩) fun k5 H6=>ap<|O<|aa<|to_alloc zero_326 p p H6 fun b5 _ H8=>ae<|O<|M p<|J (dR ⟨_,underlying2⟩ underlying22 p)<|U p<|eq (gg a0 K b5) (fun s9=>[(0,(.int .i64 a0)),(5,(.pointer (some ⟨b5,0,none⟩))),(6,(.int .u64 s9))]) (fun s9=>[]) (O<|M p<|J (cu p p)<|ae<|aw p H8 (fun k21 H22=>aq<|M p<|J (v_neg p)<|U p<|cF (u64.wrap (0 - (u64.wrap a0))) H22 (.cons p<|.cons p<|.cons p<|.nil _) .slnil) fun k21 H22=>ap<|cF (u64.wrap a0) H22 (.cons p<|.cons p<|.cons p<|.nil _) .slnil) fun s9 _ H10=>O<|M p<|aa<|D H10 en_260 fun r27 _ H11=>U p<|O<|M p<|J (bo p p)<|aa<|aS H11 (fj p p p p p) p fun v30 _ H12=>M p<|aa<|D H12 en_261 fun r32 _ H13=>ae<|am<|O<|M p<|J (cu p p)<|ae<|aw p H13 (fun k14 H15=>O<|J (bA arr_326 p p (by decide))<|aa<|dx inf_5 p p p p p H15 fun _ H16=>ae<|O<|M p<|J (bo p p)<|aa<|aS H16 (fj p p p p p) p fun v38 _ H17=>aa<|aS H17 (x_convert p) p fun v39 _ H18=>U p<|ak<|Z ⟨v39,p,H18⟩) fun k14 H15=>ap<|O<|M p<|J (bo p p)<|aa<|aS H15 (fj p p p p p) p fun v42 _ H19=>aa<|aS H19 (x_convert p) p fun v43 _ H20=>U p<|ak<|Z ⟨v43,p,H20⟩) fun k1 H2=>ap<|O<|M p<|J (dR ⟨_,underlying2⟩ underlying22 p)<|M p<|M p<|J (cu p p)<|aa<|D H2 en_262 fun r50 _ H23=>M p<|J (al p p)<|J (al p p)<|J (av p)<|U p<|O<|M p<|U p<|ak<|Z ⟨r50.2,p,H23⟩
def mS (a0:Int) (K:ByteArray->Hp->Prop):Hp->Prop:=cl prog gC [(.int .i64 a0),(.int .i64 10)] dQ fun r4=>K r4
theorem tG (a0:Int) {K:ByteArray->Hp->Prop} {h:Hp} (H:mS a0 K h):cl prog jF [(.int .i64 a0)] dQ K h:=z_i func257 p p fun _=>O<|U p<|O<|M p<|aa<|D H en_258 fun r4 _ H1=>U p<|ak<|Z ⟨r4,p,H1⟩
end
section
open Go Mb
def pB (K:Bool->Hp->Prop):Hp->Prop:=cl prog kA [(.int .i64 3)] iu fun r5=>cl prog n_trap_In [(.int .i64 2),(.agg (ai.C (⟨1,2,0,0,0⟩:ai)).toArray),r5] iu fun r6=>cl prog jX [r6] eF fun r9=>hpv prog (do eqGuard .eql 199 (.tmp 12) (.const Value.nilIface) r6 Value.nilIface; binOp .eql 199 r6 Value.nilIface:Sem Value) aB fun (v13:Bool)=>br (v13 || r9.1.isNone) ( K false) ( br r9.2 ( nn r9.1 fun q21=>ld (q21.1,q21.2 + 1) (cI .i64) fun x23=>br (x23 == 2) ( ld (q21.1,q21.2 + 2) ai.C fun x30=>br (ai.eqb x30 (⟨1,2,0,0,0⟩:ai)) ( ld (q21.1,q21.2 + 0) (cI .i64) fun x38=>br (x38 == 3) ( cl prog us [r6] bh fun r43=>br (r43 == 3) ( cl prog xa [r6] eA fun r48=>br (r48 == 2) ( cl prog kA [(.int .i64 3)] iu fun r53=>cl prog nQ [r6,r53] aB fun r54=>br r54 ( cl prog kA [(.int .i64 4)] iu fun r58=>cl prog nQ [r6,r58] aB fun r59=>br (!r59) ( cln prog (callMethod r6 "Error" #[]) dQ fun (v64:ByteArray)=>hpv prog (do eqGuard .eql 9 (.tmp 64) (.const (.string oo)) (.string v64) (.string oo); binOp .eql 9 (.string v64) (.string oo):Sem Value) aB fun (v65:Bool)=>br v65 ( cl prog kA [(.int .i64 0)] iu fun r68=>hpv prog (do eqGuard .eql 199 (.tmp 68) (.const Value.nilIface) r68 Value.nilIface; binOp .eql 199 r68 Value.nilIface:Sem Value) aB fun (v69:Bool)=>K v69) ( K false)) ( K false)) ( K false)) ( K false)) ( K false)) ( K false)) ( K false)) ( K false)) ( K false))
theorem wI {K:Bool->Hp->Prop} {h:Hp} (H:pB K h):cl prog lx [] aB K h:=z_i func223 p p fun _=>O<|U p<|O<|J (aZ p<|kl 1 2)<|aa<|D H xz fun r5 _ H1=>aa<|D H1 en_186 fun r6 _ H2=>U p<|O<|M p<|aa<|D H2 en_222 fun r9 _ H3=>M p<|J (al p p)<|J (al p p)<|J (av p)<|U p<|am<|O<|M p<|aa<|aS H3 (gn p p) p fun v13 _ H4=>M p<|W p p (aI _) (fun g5=>wv<|aj p)<|W p p (aI _) (fun g6=>wv<|cm underlying252<|aC p g6)<|J (dr p p)<|ae<|aw p H4 (fun k7 H8=>O<|U p<|ak<|Z ⟨false,p,H8⟩) fun k7 H8=>ap<|O<|M p<|M p<|W p p (ay _) (fun g9=>wv<|aj p)<|bU H8 (fun k11 H12=>bI H12 fun q21 e13 H14=>G (F k11)<|z_p (aH<|aM (aC p k11)<|ar e13)<|G (F k11)<|z_p (ah fld_254_1 p)<|G (F k11)<|aV H14 bb p (fun _=>p) p fun x23 H15=>G (F k11)<|z_p (bR p p)<|J (aT p k11 p)<|M p<|W p p (ay _) (fun g16=>wv<|aj<|aM p<|ar e13)<|W p p (ay _) (fun g17=>wv<|aH<|aC p g17)<|W p p (ay _) (fun g18=>wv<|ah fld_254_2<|aC p g18)<|bU H15 (fun k20 H21=>G (F k20)<|gA H21 ff (aC p k20) (fun _=>p) p fun x30 H22=>G (F k20)<|z_p (aZ p<|kl 1 2)<|G (F k20)<|z_p (v_eqA eqg_34 (eqr_34 9998 _ _) p p)<|J (aT p k20 p)<|M p<|W p p (ay _) (fun g23=>wv<|aj<|aM p<|ar e13)<|W p p (ay _) (fun g24=>wv<|aH<|aC p g24)<|W p p (ay _) (fun g25=>wv<|ah vV<|aC p g25)<|bU H22 (fun k27 H28=>G (F k27)<|aV H28 mT (aC p k27) (fun _=>p) p fun x38 H29=>G (F k27)<|z_p (bR p p)<|J (aT p k27 p)<|M p<|W p p (ay _) (fun g30=>wv<|aj p)<|bU H29 (fun k32 H33=>G (F k32)<|gc H33 en_208 (aR (aC p k32) bO) p fun r43 _ H34=>G (F k32)<|z_p (bR p p)<|J (aT p k32 p)<|M p<|W p p (ay _) (fun g35=>wv<|aj p)<|bU H34 (fun k37 H38=>G (F k37)<|gc H38 en_228 (aR (aC p k37) bO) p fun r48 _ H39=>G (F k37)<|z_p (bR p p)<|J (aT p k37 p)<|M p<|W p p (ay _) (fun g40=>wv<|aj p)<|bU H39 (fun k42 H43=>G (F k42)<|D H43 xz fun r53 _ H44=>G (F k42)<|gc H44 en_149 (aR (aC p k42)<|aR p bO) p fun r54 _ H45=>J (aT p k42 p)<|M p<|W p p (ay _) (fun g46=>wv<|aj p)<|bU H45 (fun k48 H49=>G (F k48)<|D H49 xz fun r58 _ H50=>G (F k48)<|gc H50 en_149 (aR (aC p k48)<|aR p bO) p fun r59 _ H51=>G (F k48)<|z_p (ct p)<|J (aT p k48 p)<|M p<|W p p (ay _) (fun g52=>wv<|aj p)<|bU H51 (fun k54 H55=>G (F k54)<|gb H55 (ga (vs:=[]) (aC p k54) p) p fun v64 _ H56=>G (F k54)<|aS H56 (gn p p) p fun v65 _ H57=>J (aT p k54 p)<|M p<|bU H57 (fun k59 H60=>G (F k59)<|D H60 xz fun r68 _ H61=>G (F k59)<|aS H61 (gn p p) p fun v69 _ H62=>J (aT p k59 p)<|U p<|ak<|Z ⟨v69,p,H62⟩) fun k59 H60=>Y (aU k59)<|Y (aU k59)<|J (au p k59 p)<|U p<|ak<|Z ⟨false,p,H60⟩) fun k54 H55=>Y (aU k54)<|Y (aU k54)<|J (au p k54 p)<|M p<|Y p<|Y p<|J (au p p p)<|U p<|ak<|Z ⟨false,p,H55⟩) fun k48 H49=>Y (aU k48)<|Y (aU k48)<|Y (aU k48)<|J (au p k48 p)<|M p<|Y p<|Y p<|Y p<|J (au p p p)<|M p<|Y p<|Y p<|J (au p p p)<|U p<|ak<|Z ⟨false,p,H49⟩) fun k42 H43=>Y (aU k42)<|Y (aU k42)<|J (au p k42 p)<|M p<|Y p<|Y p<|Y p<|Y p<|J (au p p p)<|M p<|Y p<|Y p<|Y p<|J (au p p p)<|M p<|Y p<|Y p<|J (au p p p)<|U p<|ak<|Z ⟨false,p,H43⟩) fun k37 H38=>Y (aU k37)<|Y (aU k37)<|J (au p k37 p)<|M p<|Y p<|Y p<|Y p<|J (au p p p)<|M p<|Y p<|Y p<|Y p<|Y p<|J (au p p p)<|M p<|Y p<|Y p<|Y p<|J (au p p p)<|M p<|Y p<|Y p<|J (au p p p)<|U p<|ak<|Z ⟨false,p,H38⟩) fun k32 H33=>Y (aU k32)<|Y (aU k32)<|J (au p k32 p)<|M p<|Y p<|Y p<|Y p<|J (au p p p)<|M p<|Y p<|Y p<|Y p<|J (au p p p)<|M p<|Y p<|Y p<|Y p<|Y p<|J (au p p p)<|M p<|Y p<|Y p<|Y p<|J (au p p p)<|M p<|Y p<|Y p<|J (au p p p)<|U p<|ak<|Z ⟨false,p,H33⟩) fun k27 H28=>Y (aU k27)<|Y (aU k27)<|J (au p k27 p)<|M p<|Y p<|Y p<|Y p<|J (au p p p)<|M p<|Y p<|Y p<|Y p<|J (au p p p)<|M p<|Y p<|Y p<|Y p<|J (au p p p)<|M p<|Y p<|Y p<|Y p<|Y p<|J (au p p p)<|M p<|Y p<|Y p<|Y p<|J (au p p p)<|M p<|Y p<|Y p<|J (au p p p)<|U p<|ak<|Z ⟨false,p,H28⟩) fun k20 H21=>Y (aU k20)<|Y (aU k20)<|Y (aU k20)<|J (au p k20 p)<|M p<|Y p<|Y p<|Y p<|Y p<|Y p<|J (au p p p)<|M p<|Y p<|Y p<|Y p<|J (au p p p)<|M p<|Y p<|Y p<|Y p<|J (au p p p)<|M p<|Y p<|Y p<|Y p<|J (au p p p)<|M p<|Y p<|Y p<|Y p<|Y p<|J (au p p p)<|M p<|Y p<|Y p<|Y p<|J (au p p p)<|M p<|Y p<|Y p<|J (au p p p)<|U p<|ak<|Z ⟨false,p,H21⟩) fun k11 H12=>Y (aU k11)<|Y (aU k11)<|Y (aU k11)<|Y (aU k11)<|J (au p k11 p)<|M p<|Y p<|Y p<|Y p<|Y p<|Y p<|Y p<|J (au p p p)<|M p<|Y p<|Y p<|Y p<|Y p<|Y p<|J (au p p p)<|M p<|Y p<|Y p<|Y p<|J (au p p p)<|M p<|Y p<|Y p<|Y p<|J (au p p p)<|M p<|Y p<|Y p<|Y p<|J (au p p p)<|M p<|Y p<|Y p<|Y p<|Y p<|J (au p p p)<|M p<|Y p<|Y p<|Y p<|J (au p p p)<|M p<|Y p<|Y p<|J (au p p p)<|U p<|ak<|Z ⟨false,p,H12⟩
def pC (K:Bool->Hp->Prop):Hp->Prop:=cl prog lx [] aB fun r1=>K r1
theorem wJ {K:Bool->Hp->Prop} {h:Hp} (H:pC K h):cl prog ly [] aB K h:=z_i func213 p p fun _=>O<|U p<|O<|aa<|D H en_223 fun r1 _ H1=>U p<|ak<|Z ⟨r1,p,H1⟩
end
section
open Go Mb
variable {ET:Nat} {EF:Nat × Nat}
abbrev s3_:ByteArray:=⟨#[51]⟩
theorem sp_small3:Sp prog jh [.int .i64 3] dQ [] (fun r=>pa_ (r = s3_) []):=by
 intro h st
 refine sI _ ?_
 unfold mu
 exact dN rfl (fA s3_ (fun K h=>by kernel_rfl) (aX rfl st))
theorem sp_FormatInt3:Sp prog gC [.int .i64 3,.int .i64 10] dQ [] (fun r=>pa_ (r = s3_) []):=by
 intro h st
 refine pV _ _ ?_
 unfold jR
 refine dN rfl (dN rfl (tJ sp_small3 st fun r h' hr s2=>?_))
 exact aX hr s2
theorem sp_Itoa3':Sp prog jF [.int .i64 3] dQ [] (fun r=>pa_ (r = s3_) []):=by
 intro h st
 refine tG _ ?_
 unfold mS
 exact tJ sp_FormatInt3 st fun r h' hr s2=>aX hr s2
theorem sp_Itoa3:Sp prog ta [.int .i64 3] dQ [] (fun r=>pa_ (r = s3_) []):=by
 intro h st
 refine sim_strconv_Itoa _ ?_
 unfold sh_strconv_Itoa
 exact tJ sp_Itoa3' st fun r h' hr s2=>aX hr s2
abbrev t3_:ByteArray:=⟨#[116,114,97,112,32,51]⟩
theorem sp_Error1 (b:Nat) (t:bX) (hc:t.fDb = 3) (ht:t.fXa = Value.nilIface):Sp prog iP [pv (some (b,0))] dQ [trB b t] (fun r=>pa_ (r = t3_) [trB b t]):=by
 intro h st
 refine rx _ ?_
 unfold nk
 refine dp rfl (cD ?_)
 refine bn t.fDb st (i:=0) rfl rfl rfl ?_
 rw [hc]
 refine tJ sp_Itoa3 st fun r h' hr s2=>?_
 subst hr
 refine fA t3_ (fun K h=>by kernel_rfl) ?_
 refine bn t.fXa s2 (i:=0) rfl rfl rfl ?_
 rw [ht]
 refine fA false (fun K h=>by kernel_rfl) (dp rfl ?_)
 exact aX rfl s2
theorem sp_Error2 (b e:Nat) (t u:bX) (hc:t.fDb = 3) (ht:t.fXa = dw e) (hd:u.fDb = 3) (hu:u.fXa = Value.nilIface):Sp prog iP [pv (some (b,0))] dQ [trB b t,trB e u] (fun r=>pa_ (r = oo) [trB b t,trB e u]):=by
 intro h st
 refine rx _ ?_
 unfold nk
 refine dp rfl (cD ?_)
 refine bn t.fDb st (i:=0) rfl rfl rfl ?_
 rw [hc]
 refine tJ sp_Itoa3 st fun r h' hr s2=>?_
 subst hr
 refine fA t3_ (fun K h=>by kernel_rfl) ?_
 refine bn t.fXa s2 (i:=0) rfl rfl rfl ?_
 rw [ht]
 refine fA true (fun K h=>by kernel_rfl) (dN rfl ?_)
 refine bn t.fXa s2 (i:=0) rfl rfl rfl ?_
 rw [ht]
 refine cln_en (f:=iP) (vs:=[pv (some (e,0))]) (fun K h=>by kernel_rfl) ?_
 refine bQ (i:=1) (sp_Error1 e u hd hu) rfl s2 fun r h' hr s3=>?_
 subst hr
 refine fA ⟨#[58,32,116,114,97,112,32,51]⟩ (fun K h=>by kernel_rfl) ?_
 refine fA oo (fun K h=>by kernel_rfl) ?_
 exact aX rfl s3
theorem star_ne {b d:Nat} {T T':TypeId} {c c':List Value} {l:List As} {h:Hp} (s:aE (blk b T c::blk d T' c'::l) h):b ≠ d:=by
 obtain ⟨h1,h2,dj,e,a,h3,h4,dj2,e2,a2,_⟩:=s
 rintro rfl
 have h1b:h1 b = some _:=a
 have h3b:h3 b = some _:=a2
 rcases dj b with x | x
 ·rw [h1b] at x; cases x
 ·rw [e2,un_left h3b] at x; cases x
theorem sp_Trap_Is (b d:Nat) (t w:bX):Sp prog sY [pv (some (b,0)),dw d] aB [trB b t,trB d w] (fun r=>pa_ (r = (t.fDb == w.fDb)) [trB b t,trB d w]):=by
 intro h st
 refine sim_trap_Trap_Is _ _ ?_
 unfold sh_trap_Trap_Is
 refine fA (some (d,0),true) (fun K h=>by kernel_rfl) (dN rfl (dN rfl (dN rfl (cD (cD ?_)))))
 refine bn t.fDb st (i:=0) rfl rfl rfl ?_
 refine bn w.fDb st (i:=1) rfl rfl rfl ?_
 exact aX rfl st
theorem sp_Unwrap (b:Nat) (t:bX):Sp prog np [pv (some (b,0))] encV [trB b t] (fun r=>pa_ (r = t.fXa) [trB b t]):=by
 intro h st
 refine sim_trap_Trap_Unwrap _ ?_
 unfold ry
 refine dp rfl (cD ?_)
 refine bn t.fXa st (i:=0) rfl rfl rfl ?_
 exact aX rfl st
theorem eq_traps {K:Bool->Hp->Prop} {a b n m:Nat} {t u:bX} {l:List As} {h:Hp} (s:aE (trB a t::trB b u::l) h) (k:K false h):hpv prog (do eqGuard .eql 199 (.tmp n) (.tmp m) (dw a) (dw b); binOp .eql 199 (dw a) (dw b):Sem Value) aB K h:=by
 obtain ⟨g1,a1,sub1⟩:=dP (l:=trB a t::trB b u::l) (A:=trB a t) (i:=0) (by rfl) s
 obtain ⟨g2,a2,sub2⟩:=dP (l:=trB a t::trB b u::l) (A:=trB b u) (i:=1) (by rfl) s
 have q1:h a = some (.cells (bX.C t).toArray nE (0,0)):=sub1 _ _ a1
 have q2:h b = some (.cells (bX.C u).toArray nE (0,0)):=sub2 _ _ a2
 have hne:=star_ne s
 have e:(a == b) = false:=by simpa using hne
 constructor
 rw [y6,cU]
 refine x25 _ _ q1 q2 ?_
 rw [e]
 exact ⟨false,rfl,k⟩
theorem is_step {b d:Nat} {t w:bX} {l:List As} {h:Hp} {K:Bool->Hp->Prop} {Rec:Value->Hp->Prop} (st:aE (trB b t::trB d w::l) h)
  (h1:t.fDb = w.fDb->∀ h',aE (trB b t::trB d w::l) h'->K true h') (h0:t.fDb ≠ w.fDb->t.fXa = .nilIface->∀ h',aE (trB b t::trB d w::l) h'->K false h')
  (h2:t.fDb ≠ w.fDb->∀ e,t.fXa = dw e->∀ h',aE (trB b t::trB d w::l) h'->Rec (dw e) h') (hok:t.fXa = .nilIface\/∃ e,t.fXa = dw e):sg (dw d) true K Rec (dw b) h:=by
 unfold sg
 refine dN rfl (eq_traps st (dp rfl ?_))
 refine fA (dw b,true) (fun K h=>by kernel_rfl) (dN rfl ?_)
 refine cln_en (f:=sY) (vs:=[pv (some (b,0)),dw d]) (fun K h=>by kernel_rfl) ?_
 refine cQ [] (rest:=l) (sp_Trap_Is b d t w) st rfl fun r h' s2=>?_
 obtain ⟨rfl,s3⟩:=bu.1 s2
 by_cases e:t.fDb = w.fDb
 ·exact dN (by simpa using e) (h1 e _ s3)
 ·refine dp (by simpa using e) ?_
  unfold si
  refine fA (dw b,true) (fun K h=>by kernel_rfl) (dN rfl ?_)
  refine cln_en (f:=np) (vs:=[pv (some (b,0))]) (fun K h=>by kernel_rfl) ?_
  refine bQ (i:=0) (sp_Unwrap b t) rfl s3 fun r h' hr s4=>?_
  subst hr
  rcases hok with hn | ⟨x,hx⟩
  ·rw [hn]
   refine fA true (en_00 _) (dN rfl (h0 e hn _ ?_))
   simpa using s4
  ·rw [hx]
   refine fA false (en_0 x _) (dp rfl (h2 e x hx _ ?_))
   simpa using s4
theorem sp_is1 (b d:Nat) (t w:bX) (hc:t.fDb = w.fDb) (hok:t.fXa = .nilIface\/∃ e,t.fXa = dw e):Sp prog nP [dw b,dw d,.bool true] aB [trB b t,trB d w] (fun r=>pa_ (r = true) [trB b t,trB d w]):=by
 intro h st
 refine sim_errors_is _ _ _ ?_
 unfold wP
 refine ⟨fun s h=>s = dw b/\aE [trB b t,trB d w] h,fun _ _=>0,⟨rfl,st⟩,?_⟩
 rintro _ h1 ⟨rfl,s1⟩
 exact is_step s1 (fun _ h' s2=>aX rfl s2) (fun e=>absurd hc e) (fun e=>absurd hc e) hok
theorem sp_is2 (b e d:Nat) (t u w:bX) (ht:t.fXa = dw e) (hu:u.fXa = .nilIface) (hc:t.fDb ≠ w.fDb) (hd:u.fDb ≠ w.fDb) :
  Sp prog nP [dw b,dw d,.bool true] aB [trB b t,trB e u,trB d w] (fun r=>pa_ (r = false) [trB b t,trB e u,trB d w]):=by
 intro h st
 refine sim_errors_is _ _ _ ?_
 unfold wP
 refine ⟨fun s h=>(s = dw b\/s = dw e)/\aE [trB b t,trB e u,trB d w] h,fun s _=>match s with | .iface _ (.pointer (some p))=>if p.block = b then 1 else 0 | _=>0,⟨.inl rfl,st⟩,?_⟩
 have hne:e ≠ b:=fun h=>(star_ne st) h.symm
 rintro _ h1 ⟨rfl | rfl,s1⟩
 ·refine is_step (l:=[trB e u]) (bc [0,1] s1 rfl) (fun x=>absurd x hc) (fun _ x=>by rw [ht] at x; cases x) (fun _ x hx h' s2=>?_) (.inr ⟨e,ht⟩)
  rw [ht] at hx
  rw [← hx]
  exact ⟨⟨.inr rfl,bc [0,1] s2 rfl⟩,by show (if e = b then 1 else 0) < (if b = b then 1 else 0); rw [if_pos rfl,if_neg hne]; exact Nat.one_pos⟩
 ·refine is_step (l:=[trB b t]) (bc [1,1] s1 rfl) (fun x=>absurd x hd) (fun _ _ h' s2=>aX rfl (bc [2,0] s2 rfl)) (fun _ x hx=>by rw [hu] at hx; cases hx) (.inl hu)
theorem sp_Is1 (b d:Nat) (t w:bX) (hc:t.fDb = w.fDb) (hok:t.fXa = .nilIface\/∃ e,t.fXa = dw e):Sp prog nQ [dw b,dw d] aB [trB b t,trB d w] (fun r=>pa_ (r = true) [trB b t,trB d w]):=by
 intro h st
 refine sim_errors_Is _ _ ?_
 unfold wQ
 refine fA false (en_0 b _) (dN rfl (fA false (en_0 d _) (dp rfl ?_)))
 refine tz (rtV bg) (fun K h=>x7 d K h) ?_
 refine tz true (fun K h=>x13 K h) ?_
 refine cQ [] (rest:=[]) (sp_is1 b d t w hc hok) st rfl fun r h' s2=>?_
 obtain ⟨rfl,s3⟩:=bu.1 s2
 exact aX rfl s3
theorem sp_Is2 (b e d:Nat) (t u w:bX) (ht:t.fXa = dw e) (hu:u.fXa = .nilIface) (hc:t.fDb ≠ w.fDb) (hd:u.fDb ≠ w.fDb) :
  Sp prog nQ [dw b,dw d] aB [trB b t,trB e u,trB d w] (fun r=>pa_ (r = false) [trB b t,trB e u,trB d w]):=by
 intro h st
 refine sim_errors_Is _ _ ?_
 unfold wQ
 refine fA false (en_0 b _) (dN rfl (fA false (en_0 d _) (dp rfl ?_)))
 refine tz (rtV bg) (fun K h=>x7 d K h) ?_
 refine tz true (fun K h=>x13 K h) ?_
 refine cQ [] (rest:=[]) (sp_is2 b e d t u w ht hu hc hd) st rfl fun r h' s2=>?_
 obtain ⟨rfl,s3⟩:=bu.1 s2
 exact aX rfl s3
theorem uB {α:Type} {A:α->As} {l:List As} {h:Hp} (s:aE (ex A::l) h):∃ x,aE (A x::l) h:=by
 obtain ⟨h1,h2,d,e,⟨x,a⟩,s2⟩:=s
 exact ⟨x,h1,h2,d,e,a,s2⟩
abbrev tr3:bX:=⟨3,-1,⟨0,0,0,0,0⟩,.nilIface⟩
abbrev tr4:bX:=⟨4,-1,⟨0,0,0,0,0⟩,.nilIface⟩
abbrev tr32 (e:Nat):bX:=⟨3,2,⟨1,2,0,0,0⟩,dw e⟩
theorem sp_begun1:Sp prog lx [] aB [(etB ET EF)] (fun r=>pa_ (r = true) [(etB ET EF)]):=by
 intro h st
 refine wI ?_
 unfold pB
 refine cQ [] (rest:=[(etB ET EF)]) (sp_Of 3 (by decide)) st rfl fun r h1 s1=>?_
 obtain ⟨e,x1⟩:=uB s1
 obtain ⟨rfl,y1⟩:=bu.1 x1
 refine cQ [1,0] (rest:=[]) (sp_In 2 ⟨1,2,0,0,0⟩ e tr3) y1 rfl fun r h2 s2=>?_
 obtain ⟨b,x2⟩:=uB s2
 obtain ⟨rfl,y2⟩:=bu.1 x2
 refine bQ (i:=1) (sp_First b) rfl y2 fun r h3 hr s3=>?_
 subst hr
 refine fA false (en_0 b _) (dp rfl (dN rfl (cD ?_)))
 refine bn 2 s3 (i:=0) rfl rfl rfl (dN rfl ?_)
 refine ld_s ⟨1,2,0,0,0⟩ s3 (i:=0) rfl (fun j v hj=>?_) (dN rfl ?_)
 ·rcases j with _ | _ | _ | _ | _ | j <;> first | exact hj | (simp [ai.C] at hj)
 refine bn 3 s3 (i:=0) rfl rfl rfl (dN rfl ?_)
 refine cQ [1,0] (rest:=[_]) (sp_Code b (tr32 e)) s3 rfl fun r h4 s4=>?_
 obtain ⟨rfl,y4⟩:=bu.1 s4
 refine dN rfl ?_
 refine cQ [] (rest:=[]) (sp_Depth2 b e (tr32 e) tr3 rfl rfl) y4 rfl fun r h5 s5=>?_
 obtain ⟨rfl,y5⟩:=bu.1 s5
 refine dN rfl ?_
 refine cQ [] (rest:=[_,_,_]) (sp_Of 3 (by decide)) y5 rfl fun r h6 s6=>?_
 obtain ⟨d,x6⟩:=uB s6
 obtain ⟨rfl,y6⟩:=bu.1 x6
 refine cQ [2,0] (rest:=[_,_]) (sp_Is1 b d (tr32 e) tr3 rfl (.inr ⟨e,rfl⟩)) y6 rfl fun r h7 s7=>?_
 obtain ⟨rfl,y7⟩:=bu.1 s7
 refine dN rfl ?_
 refine cQ [] (rest:=[_,_,_,_]) (sp_Of 4 (by decide)) y7 rfl fun r h8 s8=>?_
 obtain ⟨f,x8⟩:=uB s8
 obtain ⟨rfl,y8⟩:=bu.1 x8
 refine cQ [1,3,0] (rest:=[_,_]) (sp_Is2 b e f (tr32 e) tr3 tr4 rfl rfl (show (3:Int) ≠ 4 by decide) (show (3:Int) ≠ 4 by decide)) y8 rfl fun r h9 s9=>?_
 obtain ⟨rfl,y9⟩:=bu.1 s9
 refine dN rfl ?_
 refine cln_en (f:=iP) (vs:=[pv (some (b,0))]) (fun K h=>by kernel_rfl) ?_
 refine cQ [] (rest:=[_,_,_]) (sp_Error2 b e (tr32 e) tr3 rfl rfl rfl rfl) y9 rfl fun r h10 s10=>?_
 obtain ⟨rfl,y10⟩:=bu.1 s10
 refine fA true (fun K h=>by kernel_rfl) (dN rfl ?_)
 refine tJ sp_Of0 y10 fun r h11 hr s11=>?_
 subst hr
 refine fA true (en_00 _) ?_
 exact aX rfl (cd (l:=[_,_,_,_]) s11)
end
section
open Go Mb
def sh_cell_New (a0:Int) (K:Ptr->Hp->Prop):Hp->Prop:=nw qE (oa.C (⟨a0,0⟩:oa)) fun b5=>K (some (b5,0))
theorem sim_cell_New (a0:Int) {K:Ptr->Hp->Prop} {h:Hp} (H:sh_cell_New a0 K h):cl prog tf [(.int .u64 a0)] pd K h:=z_i func209 p p fun _=>O<|U p<|O<|M p<|J (aZ p<|build_285_0 a0)<|aa<|hU p p p H fun b5 _ H1=>U p<|ak<|Z ⟨some (b5,0),p,H1⟩
def sh_cell_Cell_Up (a0:Ptr) (a1:Int) (K:(Int × Bool)->Hp->Prop):Hp->Prop:=br a0.isNone ( K (0,false)) ( nn a0 fun q9=>ld (q9.1,q9.2 + 1) (cI .i64) fun x11=>st (q9.1,q9.2 + 1) [.int .i64 (i64.wrap (x11 + 1))]<|ld (q9.1,q9.2 + 0) (cI .u64) fun x18=>br (decide (x18 >= a1)) ( ld (q9.1,q9.2 + 0) (cI .u64) fun x24=>K (x24,false)) ( ld (q9.1,q9.2 + 0) (cI .u64) fun x28=>st (q9.1,q9.2 + 0) [.int .u64 (u64.wrap (x28 + 1))]<|ld (q9.1,q9.2 + 0) (cI .u64) fun x35=>K (x35,true)))
theorem sim_cell_Cell_Up (a0:Ptr) (a1:Int) {K:(Int × Bool)->Hp->Prop} {h:Hp} (H:sh_cell_Cell_Up a0 a1 K h):cl prog oQ [(pv a0),(.int .u64 a1)] bK K h:=z_i func211 p p fun _=>O<|J (av p)<|U p<|am<|O<|M p<|J (cm underlying266 p)<|ae<|aw p H (fun k1 H2=>O<|J (av p)<|U p<|ak<|bz (bT p (cc p)<|cc p) ⟨(0,false),p,H2⟩) fun k1 H2=>ap<|O<|M p<|bI H2 fun q9 e3 H4=>J (aH<|aM p<|ar e3)<|J (ah sx p)<|aa<|aV H4 bb p (fun _=>p) p fun x11 H5=>J (bo p p)<|J (aH<|aM p<|ar e3)<|J (ah sx p)<|aa<|dx pK p p p p p H5 fun _ H6=>ae<|am<|O<|M (aM p<|ar e3)<|J (aH p)<|J (ah nU p)<|aa<|aV H6 cn p (fun _=>p) p fun x18 H7=>M p<|J (jx p p)<|ae<|aw p H7 (fun k8 H9=>O<|M (aM p<|ar e3)<|J (aH p)<|J (ah nU p)<|aa<|aV H9 cn p (fun _=>p) p fun x24 H10=>J (av p)<|U p<|ak<|bz (bT p (cc p)<|cc p) ⟨(x24,false),p,H10⟩) fun k8 H9=>ap<|O<|M (aM p<|ar e3)<|J (aH p)<|J (ah nU p)<|aa<|aV H9 cn p (fun _=>p) p fun x28 H11=>J (bo p p)<|J (aH p)<|J (ah nU p)<|aa<|dx inf_22 p p p p p H11 fun _ H12=>ae<|O<|M (aM p<|ar e3)<|J (aH p)<|J (ah nU p)<|aa<|aV H12 cn p (fun _=>p) p fun x35 H13=>J (av p)<|U p<|ak<|bz (bT p (cc p)<|cc p) ⟨(x35,true),p,H13⟩
def uh (a0:Ptr) (K:Int->Hp->Prop):Hp->Prop:=br a0.isNone ( K 0) ( nn a0 fun q6=>ld (q6.1,q6.2 + 1) (cI .i64) fun x8=>st (q6.1,q6.2 + 1) [.int .i64 (i64.wrap (x8 + 1))]<|ld (q6.1,q6.2 + 0) (cI .u64) fun x15=>K x15)
theorem sim_cell_Cell_Load (a0:Ptr) {K:Int->Hp->Prop} {h:Hp} (H:uh a0 K h):cl prog mh [(pv a0)] gM K h:=z_i func224 p p fun _=>O<|U p<|am<|O<|M p<|J (cm underlying266 p)<|ae<|aw p H (fun k1 H2=>O<|U p<|ak<|Z ⟨0,p,H2⟩) fun k1 H2=>ap<|O<|M p<|bI H2 fun q6 e3 H4=>J (aH<|aM p<|ar e3)<|J (ah sx p)<|aa<|aV H4 bb p (fun _=>p) p fun x8 H5=>J (bo p p)<|J (aH<|aM p<|ar e3)<|J (ah sx p)<|aa<|dx pK p p p p p H5 fun _ H6=>ae<|O<|M (aM p<|ar e3)<|J (aH p)<|J (ah nU p)<|aa<|aV H6 cn p (fun _=>p) p fun x15 H7=>U p<|ak<|Z ⟨x15,p,H7⟩
def vz (a0:Ptr) (a1:Int) (a2:Int) (K:Bool->Hp->Prop):Hp->Prop:=br a0.isNone ( K false) ( nn a0 fun q10=>ld (q10.1,q10.2 + 1) (cI .i64) fun x12=>st (q10.1,q10.2 + 1) [.int .i64 (i64.wrap (x12 + 1))]<|ld (q10.1,q10.2 + 0) (cI .u64) fun x19=>br (x19 != a1) ( K false) ( st (q10.1,q10.2 + 0) [.int .u64 a2]<|K true))
theorem sim_cell_Cell_Cas (a0:Ptr) (a1:Int) (a2:Int) {K:Bool->Hp->Prop} {h:Hp} (H:vz a0 a1 a2 K h):cl prog rn [(pv a0),(.int .u64 a1),(.int .u64 a2)] aB K h:=z_i func225 p p fun _=>O<|U p<|am<|O<|M p<|J (cm underlying266 p)<|ae<|aw p H (fun k1 H2=>O<|U p<|ak<|Z ⟨false,p,H2⟩) fun k1 H2=>ap<|O<|M p<|bI H2 fun q10 e3 H4=>J (aH<|aM p<|ar e3)<|J (ah sx p)<|aa<|aV H4 bb p (fun _=>p) p fun x12 H5=>J (bo p p)<|J (aH<|aM p<|ar e3)<|J (ah sx p)<|aa<|dx pK p p p p p H5 fun _ H6=>ae<|am<|O<|M (aM p<|ar e3)<|J (aH p)<|J (ah nU p)<|aa<|aV H6 cn p (fun _=>p) p fun x19 H7=>M p<|J (ph p p)<|ae<|aw p H7 (fun k8 H9=>O<|U p<|ak<|Z ⟨false,p,H9⟩) fun k8 H9=>ap<|O<|M (aM p<|ar e3)<|M p<|J (aH p)<|J (ah nU p)<|aa<|dx inf_22 p p p p p H9 fun _ H10=>ae<|O<|U p<|ak<|Z ⟨true,p,H10⟩
end
section
open Go Mb
def sh_ticket_New (K:Ptr->Hp->Prop):Hp->Prop:=cl prog tf [(.int .u64 0)] pd fun r1=>cl prog tf [(.int .u64 0)] pd fun r2=>nw mN (kD.C (⟨r1,r2⟩:kD)) fun b4=>K (some (b4,0))
theorem sim_ticket_New {K:Ptr->Hp->Prop} {h:Hp} (H:sh_ticket_New K h):cl prog xc [] tD K h:=z_i func210 p p fun _=>O<|U p<|O<|aa<|D H en_209 fun r1 _ H1=>aa<|D H1 en_209 fun r2 _ H2=>J (aZ p<|build_287_0_1 r1 r2)<|aa<|hU p p p H2 fun b4 _ H3=>U p<|ak<|Z ⟨some (b4,0),p,H3⟩
def rB (a0:Ptr) (K:Int->Hp->Prop):Hp->Prop:=br a0.isNone ( K 0) ( nn a0 fun q9=>ld (q9.1,q9.2 + 0) cP fun x11=>cl prog oQ [(pv x11),(.int .u64 18446744073709551615)] bK fun r12=>K (u64.wrap (r12.1 - 1)))
theorem sim_ticket_Lock_Draw (a0:Ptr) {K:Int->Hp->Prop} {h:Hp} (H:rB a0 K h):cl prog nr [(pv a0)] gM K h:=z_i func212 p p fun _=>O<|U p<|am<|O<|M p<|J (cm underlying268 p)<|ae<|aw p H (fun k1 H2=>O<|U p<|ak<|Z ⟨0,p,H2⟩) fun k1 H2=>ap<|O<|M p<|bI H2 fun q9 e3 H4=>J (aH<|aM p<|ar e3)<|J (ah fld_287_0 p)<|aa<|aV H4 sc_266 p (fun _=>p) p fun x11 H5=>aa<|D H5 en_211 fun r12 _ H6=>M p<|J (al p p)<|J (al p p)<|J (av p)<|U p<|O<|M p<|J (v_sub p p)<|U p<|ak<|Z ⟨u64.wrap (r12.1 - 1),p,H6⟩
def rz (a0:Ptr) (a1:Int) (K:Bool->Hp->Prop):Hp->Prop:=br (!a0.isNone) ( nn a0 fun q9=>ld (q9.1,q9.2 + 1) cP fun x11=>cl prog mh [(pv x11)] gM fun r12=>br (r12 == a1) ( ld (q9.1,q9.2 + 0) cP fun x21=>cl prog mh [(pv x21)] gM fun r22=>K (decide (a1 < r22))) ( K false)) ( K false)
theorem sim_ticket_Lock_Turn (a0:Ptr) (a1:Int) {K:Bool->Hp->Prop} {h:Hp} (H:rz a0 a1 K h):cl prog jY [(pv a0),(.int .u64 a1)] aB K h:=z_i func214 p p fun _=>O<|U p<|O<|M p<|J (v_pneT underlying268 p)<|M p<|W p p (ay _) (fun g1=>wv<|aj p)<|bU H (fun k3 H4=>bI H4 fun q9 e5 H6=>G (F k3)<|z_p (aH<|aM (aC p k3)<|ar e5)<|G (F k3)<|z_p (ah fld_287_1 p)<|G (F k3)<|aV H6 sc_266 p (fun _=>p) p fun x11 H7=>G (F k3)<|D H7 en_224 fun r12 _ H8=>G (F k3)<|z_p (aj p)<|G (F k3)<|z_p (bR p p)<|J (aT p k3 p)<|M p<|W p p (ay _) (fun g9=>wv<|aj p)<|W p p (ay _) (fun g10=>wv<|aj<|aM p<|ar e5)<|W p p (ay _) (fun g11=>wv<|aH<|aC p g11)<|W p p (ay _) (fun g12=>wv<|ah fld_287_0<|aC p g12)<|bU H8 (fun k14 H15=>G (F k14)<|aV H15 sc_266 (aC p k14) (fun _=>p) p fun x21 H16=>G (F k14)<|D H16 en_224 fun r22 _ H17=>G (F k14)<|z_p (cu (aC p k14) p)<|J (aT p k14 p)<|U p<|ak<|Z ⟨decide (a1 < r22),p,H17⟩) fun k14 H15=>Y (aU k14)<|Y (aU k14)<|Y (aU k14)<|J (au p k14 p)<|U p<|ak<|Z ⟨false,p,H15⟩) fun k3 H4=>Y (aU k3)<|Y (aU k3)<|Y (aU k3)<|Y (aU k3)<|Y (aU k3)<|Y (aU k3)<|J (au p k3 p)<|M p<|Y p<|Y p<|Y p<|Y p<|Y p<|Y p<|Y p<|J (au p p p)<|U p<|ak<|Z ⟨false,p,H4⟩
def rA (a0:Ptr) (a1:Int) (K:Bool->Hp->Prop):Hp->Prop:=cl prog jY [(pv a0),(.int .u64 a1)] aB fun r7=>br r7 ( nn a0 fun q10=>ld (q10.1,q10.2 + 1) cP fun x12=>cl prog rn [(pv x12),(.int .u64 a1),(.int .u64 (u64.wrap (a1 + 1)))] aB fun r16=>K r16) ( K false)
theorem sim_ticket_Lock_Pass (a0:Ptr) (a1:Int) {K:Bool->Hp->Prop} {h:Hp} (H:rA a0 a1 K h):cl prog nq [(pv a0),(.int .u64 a1)] aB K h:=z_i func215 p p fun _=>O<|U p<|O<|M p<|M p<|aa<|D H en_214 fun r7 _ H1=>M p<|W p p (ay _) (fun g2=>wv<|aj p)<|bU H1 (fun k4 H5=>bI H5 fun q10 e6 H7=>G (F k4)<|z_p (aH<|aM (aC p k4)<|ar e6)<|G (F k4)<|z_p (ah fld_287_1 p)<|G (F k4)<|aV H7 sc_266 p (fun _=>p) p fun x12 H8=>G (F k4)<|z_p (aj p)<|G (F k4)<|z_p (aj p)<|G (F k4)<|z_p (bo p p)<|G (F k4)<|D H8 en_225 fun r16 _ H9=>J (aT p k4 p)<|U p<|ak<|Z ⟨r16,p,H9⟩) fun k4 H5=>Y (aU k4)<|Y (aU k4)<|Y (aU k4)<|Y (aU k4)<|Y (aU k4)<|Y (aU k4)<|Y (aU k4)<|J (au p k4 p)<|U p<|ak<|Z ⟨false,p,H5⟩
end
section
open Go Mb
def kM (x:Ptr) (c:Int × Int):As:=fun h=>∃ b:Nat,(x = some (b,0))/\aE [blk b qE [.int .u64 c.1,.int .i64 c.2]] h
theorem cell_op {x:Ptr} {c:Int × Int} {l:List As} {h:Hp} (s0:aE (kM x c::l) h):∃ b,x = some (b,0)/\aE (blk b qE [.int .u64 c.1,.int .i64 c.2]::l) h:=by
 obtain ⟨b,hx,st⟩:=op_ s0
 exact ⟨b,hx,st⟩
theorem cell_cl {b:Nat} {v n:Int} {l:List As} {h:Hp} (st:aE (blk b qE [.int .u64 v,.int .i64 n]::l) h):aE (kM (some (b,0)) (v,n)::l) h:=cl_ (m:=fun b=>[blk b qE [.int .u64 (v,n).1,.int .i64 (v,n).2]]) b rfl st
namespace Cell
def tick (c:Int × Int):Int × Int:=(c.1,i64.wrap (c.2 + 1))
def cas (c:Int × Int) (o v:Int):Bool × Int × Int:=if c.1 = o then (true,v,(tick c).2) else (false,tick c)
def up (c:Int × Int) (m:Int):(Int × Bool) × Int × Int:=if c.1 >= m then ((c.1,false),tick c) else ((u64.wrap (c.1 + 1),true),(u64.wrap (c.1 + 1),(tick c).2))
end Cell
theorem sp_cell_New (v:Int):Sp prog tf [.int .u64 v] pd [] (fun r=>aE [kM r (v,0)]):=by
 intro h st
 refine sim_cell_New _ ?_
 unfold sh_cell_New
 exact pn st fun b h' s1=>cell_cl s1
theorem sp_cell_Load (x:Ptr) (c:Int × Int):Sp prog mh [pv x] gM [kM x c] (fun r=>pa_ (r = c.1) [kM x (Cell.tick c)]):=by
 intro h s0
 obtain ⟨b,rfl,st⟩:=cell_op s0
 refine sim_cell_Cell_Load _ ?_
 unfold uh
 refine dp rfl (cD ?_)
 refine bn c.2 st (i:=0) rfl rfl rfl ?_
 refine uJ (i:=0) st rfl (le_refl _) fun h2 s2=>?_
 refine bn c.1 s2 (i:=0) rfl rfl rfl ?_
 exact aX rfl (cell_cl s2)
theorem sp_cell_Cas (x:Ptr) (c:Int × Int) (o v:Int):Sp prog rn [pv x,.int .u64 o,.int .u64 v] aB [kM x c] (fun r=>pa_ (r = (Cell.cas c o v).1) [kM x (Cell.cas c o v).2]):=by
 intro h s0
 obtain ⟨b,rfl,st⟩:=cell_op s0
 refine sim_cell_Cell_Cas _ _ _ ?_
 unfold vz
 refine dp rfl (cD ?_)
 refine bn c.2 st (i:=0) rfl rfl rfl ?_
 refine uJ (i:=0) st rfl (le_refl _) fun h2 s2=>?_
 refine bn c.1 s2 (i:=0) rfl rfl rfl ?_
 refine aY (fun k=>?_) (fun k=>?_)
 ·have k':¬ c.1 = o:=by simpa using k
  have e:Cell.cas c o v = (false,Cell.tick c):=if_neg k'
  rw [e]
  exact aX rfl (cell_cl s2)
 ·have k':c.1 = o:=by simpa using k
  have e:Cell.cas c o v = (true,v,(Cell.tick c).2):=if_pos k'
  rw [e]
  refine uJ (i:=0) s2 rfl (show 0 + 0 + 1 <= 2 by decide) fun h3 s3=>?_
  exact aX rfl (cell_cl s3)
theorem sp_cell_Up (x:Ptr) (c:Int × Int) (m:Int):Sp prog oQ [pv x,.int .u64 m] bK [kM x c] (fun r=>pa_ (r = (Cell.up c m).1) [kM x (Cell.up c m).2]):=by
 intro h s0
 obtain ⟨b,rfl,st⟩:=cell_op s0
 refine sim_cell_Cell_Up _ _ ?_
 unfold sh_cell_Cell_Up
 refine dp rfl (cD ?_)
 refine bn c.2 st (i:=0) rfl rfl rfl ?_
 refine uJ (i:=0) st rfl (le_refl _) fun h2 s2=>?_
 refine bn c.1 s2 (i:=0) rfl rfl rfl ?_
 refine aY (fun k=>?_) (fun k=>?_)
 ·have k':c.1 >= m:=by simpa using k
  have e:Cell.up c m = ((c.1,false),Cell.tick c):=if_pos k'
  rw [e]
  refine bn c.1 s2 (i:=0) rfl rfl rfl ?_
  exact aX rfl (cell_cl s2)
 ·have k':¬ c.1 >= m:=by simpa using k
  have e:Cell.up c m = ((u64.wrap (c.1 + 1),true),(u64.wrap (c.1 + 1),(Cell.tick c).2)):=if_neg k'
  rw [e]
  refine bn c.1 s2 (i:=0) rfl rfl rfl ?_
  refine uJ (i:=0) s2 rfl (show 0 + 0 + 1 <= 2 by decide) fun h3 s3=>?_
  refine bn (u64.wrap (c.1 + 1)) s3 (i:=0) rfl rfl rfl ?_
  exact aX rfl (cell_cl s3)
def uV (x:Ptr) (k:(Int × Int) × (Int × Int)):As:=fun h=>∃ bs:Nat × Ptr × Ptr,(x = some (bs.1,0))/\aE [blk bs.1 mN [pv bs.2.1,pv bs.2.2],kM bs.2.1 k.1,kM bs.2.2 k.2] h
theorem lock_op {x:Ptr} {k:(Int × Int) × (Int × Int)} {l:List As} {h:Hp} (s0:aE (uV x k::l) h):∃ b p q,x = some (b,0)/\aE (blk b mN [pv p,pv q]::kM p k.1::kM q k.2::l) h:=by
 obtain ⟨⟨b,p,q⟩,hx,st⟩:=op_ s0
 exact ⟨b,p,q,hx,st⟩
theorem lock_cl {b:Nat} {p q:Ptr} {k1 k2:Int × Int} {l:List As} {h:Hp} (st:aE (blk b mN [pv p,pv q]::kM p k1::kM q k2::l) h):aE (uV (some (b,0)) (k1,k2)::l) h :=
 cl_ (m:=fun bs:Nat × Ptr × Ptr=>[blk bs.1 mN [pv bs.2.1,pv bs.2.2],kM bs.2.1 (k1,k2).1,kM bs.2.2 (k1,k2).2]) (b,p,q) rfl st
namespace Lock
abbrev S:=(Int × Int) × (Int × Int)
def draw (k:S):Int × S:=(u64.wrap ((Cell.up k.1 18446744073709551615).1.1 - 1),((Cell.up k.1 18446744073709551615).2,k.2))
def turn (k:S) (t:Int):Bool × S:=if k.2.1 = t then (decide (t < k.1.1),(Cell.tick k.1,Cell.tick k.2)) else (false,(k.1,Cell.tick k.2))
def pass (k:S) (t:Int):Bool × S:=if (turn k t).1 then ((Cell.cas (turn k t).2.2 t (u64.wrap (t + 1))).1,((turn k t).2.1,(Cell.cas (turn k t).2.2 t (u64.wrap (t + 1))).2)) else (false,(turn k t).2)
end Lock
theorem sp_ticket_New:Sp prog xc [] tD [] (fun r=>aE [uV r ((0,0),(0,0))]):=by
 intro h st
 refine sim_ticket_New ?_
 unfold sh_ticket_New
 refine cQ [] (sp_cell_New 0) st rfl fun p h1 s1=>?_
 refine cQ [] (sp_cell_New 0) (dC s1) rfl fun q h2 s2=>?_
 refine pn (dC s2) fun b h3 s3=>?_
 exact lock_cl (bc [0,1] s3 rfl)
theorem sp_ticket_Draw (x:Ptr) (k:Lock.S):Sp prog nr [pv x] gM [uV x k] (fun r=>pa_ (r = (Lock.draw k).1) [uV x (Lock.draw k).2]):=by
 intro h s0
 obtain ⟨b,p,q,rfl,st⟩:=lock_op s0
 refine sim_ticket_Lock_Draw _ ?_
 unfold rB
 refine dp rfl (cD ?_)
 refine bn p st (i:=0) rfl rfl rfl ?_
 refine cQ [1] (sp_cell_Up p k.1 _) st rfl fun r h1 s1=>?_
 obtain ⟨hr,s2⟩:=bu.1 s1
 subst hr
 exact aX rfl (lock_cl (bc [1] s2 rfl))
theorem sp_ticket_Turn (x:Ptr) (k:Lock.S) (t:Int):Sp prog jY [pv x,.int .u64 t] aB [uV x k] (fun r=>pa_ (r = (Lock.turn k t).1) [uV x (Lock.turn k t).2]):=by
 intro h s0
 obtain ⟨b,p,q,rfl,st⟩:=lock_op s0
 refine sim_ticket_Lock_Turn _ _ ?_
 unfold rz
 refine dN rfl (cD ?_)
 refine bn q st (i:=0) rfl rfl rfl ?_
 refine cQ [2] (sp_cell_Load q k.2) st rfl fun r h1 s1=>?_
 obtain ⟨hr,s2⟩:=bu.1 s1
 subst hr
 refine aY (fun c=>?_) (fun c=>?_)
 ·have c':k.2.1 = t:=by simpa using c
  have e:Lock.turn k t = (decide (t < k.1.1),(Cell.tick k.1,Cell.tick k.2)):=if_pos c'
  rw [e]
  refine bn p s2 (i:=1) rfl rfl rfl ?_
  refine cQ [2] (sp_cell_Load p k.1) s2 rfl fun r h2 s3=>?_
  obtain ⟨hr,s4⟩:=bu.1 s3
  subst hr
  exact aX rfl (lock_cl (bc [2] s4 rfl))
 ·have c':¬ k.2.1 = t:=by simpa using c
  have e:Lock.turn k t = (false,(k.1,Cell.tick k.2)):=if_neg c'
  rw [e]
  exact aX rfl (lock_cl (bc [1,1] s2 rfl))
theorem sp_ticket_Pass (x:Ptr) (k:Lock.S) (t:Int):Sp prog nq [pv x,.int .u64 t] aB [uV x k] (fun r=>pa_ (r = (Lock.pass k t).1) [uV x (Lock.pass k t).2]):=by
 intro h s0
 refine sim_ticket_Lock_Pass _ _ ?_
 unfold rA
 refine cQ [0] (sp_ticket_Turn x k t) s0 rfl fun r h1 s1=>?_
 obtain ⟨hr,s2⟩:=bu.1 s1
 subst hr
 refine aY (fun c=>?_) (fun c=>?_)
 ·have e:Lock.pass k t = ((Cell.cas (Lock.turn k t).2.2 t (u64.wrap (t + 1))).1,((Lock.turn k t).2.1,(Cell.cas (Lock.turn k t).2.2 t (u64.wrap (t + 1))).2)):=if_pos c
  rw [e]
  obtain ⟨b,p,q,rfl,st⟩:=lock_op s2
  refine cD (bn q st (i:=0) rfl rfl rfl ?_)
  refine cQ [2] (sp_cell_Cas q _ t _) st rfl fun r h2 s3=>?_
  obtain ⟨hr,s4⟩:=bu.1 s3
  subst hr
  exact aX rfl (lock_cl (bc [1,1] s4 rfl))
 ·have e:Lock.pass k t = (false,(Lock.turn k t).2):=by unfold Lock.pass; rw [c]; rfl
  rw [e]
  exact aX rfl s2
end
section
open Go Mb
def pz (K:Bool->Hp->Prop):Hp->Prop:=cl prog vJ [(.int .i64 2)] tE fun r24=>cl prog lp [] io fun r25=>cl prog iA [] gE fun r26=>cl prog tc [(.int .i64 3)] pb fun r27=>cl prog tf [(.int .u64 5)] pd fun r28=>cl prog xc [] tD fun r29=>cl prog xd [(.int .i64 2)] sm fun r30=>br ((((((r24.isNone || r25.isNone) || r26.isNone) || r27.isNone) || r28.isNone) || r29.isNone) || r30.isNone) ( K false) ( cl prog dW [(pv r25),(.int .i64 1),(.agg (an.C (⟨1,2,3⟩:an)).toArray)] bh fun r59=>cl prog oK [(pv r26),(.agg (ao.C (⟨1,5,1,1⟩:ao)).toArray)] aB fun r67=>cl prog oJ [(pv r26),(.int .i64 1),(.int .i64 5)] fI fun r70=>cl prog nh [(pv r27),(.int .i64 0),(.int .u64 4)] eA fun r74=>cl prog ma [(pv r27),(.int .i64 2)] bK fun r77=>cl prog oQ [(pv r28),(.int .u64 9)] bK fun r82=>cl prog nr [(pv r29)] gM fun r86=>cl prog jC [(pv r30)] bM fun r89=>cl prog ly [] aB fun r97=>br (((((((((((r97 && (r59 == 0)) && (eQ (⟨1,2,3⟩:an)).2) && (((eQ (⟨1,2,3⟩:an)).1) == 33059)) && r67) && r70.2) && (r70.1.fEa == 1)) && (r74 == 2)) && (r77.1 == 4)) && r77.2) && (r82.1 == 6)) && (r86 == 0)) ( cl prog jY [(pv r29),(.int .u64 0)] aB fun r141=>br r141 ( cl prog nq [(pv r29),(.int .u64 0)] aB fun r145=>br ((r145 && (r89.1 == 0)) && r89.2) ( cl prog fE [(pv r24),(.int .i64 1),(.int .i64 3),(.int .u64 9)] aB fun r156=>br ((r156 && (ax (⟨6,0,0,0,0⟩:ai)).2) && (((ax (⟨6,0,0,0,0⟩:ai)).1) == 6)) ( cl prog gP [(.agg (ai.C (⟨6,8,0,1,0⟩:ai)).toArray),(.int .i64 2)] bh fun r167=>br (r167 == 2) ( cl prog n_word_Args [(.int .i64 3)] eA fun r171=>br ((r171 == 4) && (aP 1 3)) ( cl prog lW [(pv r25),(.int .i64 2)] cx fun r179=>br ((r179.len:Int) == 1) ( cl prog pY [(pv r30)] gM fun r185=>K (r185 == 2)) ( K false)) ( K false)) ( K false)) ( K false)) ( K false)) ( K false)) ( K false))
theorem wG {K:Bool->Hp->Prop} {h:Hp} (H:pz K h):cl prog lv [] aB K h:=z_i func187 p p fun _=>O<|U p<|O<|aa<|D H en_104 fun r24 _ H1=>aa<|D H1 en_107 fun r25 _ H2=>aa<|D H2 en_59 fun r26 _ H3=>aa<|D H3 en_57 fun r27 _ H4=>J (av p)<|J (av p)<|J (av p)<|U p<|O<|aa<|D H4 en_209 fun r28 _ H5=>aa<|D H5 en_210 fun r29 _ H6=>aa<|D H6 en_105 fun r30 _ H7=>J (av p)<|J (av p)<|U p<|am<|O<|M p<|J (cm underlying152 p)<|M p<|W p p (aI _) (fun g8=>wv<|aj p)<|W p p (aI _) (fun g9=>wv<|cm underlying161<|aC p g9)<|J (dr p p)<|M p<|W p p (aI _) (fun g10=>wv<|aj p)<|W p p (aI _) (fun g11=>wv<|cm underlying114<|aC p g11)<|J (dr p p)<|M p<|W p p (aI _) (fun g12=>wv<|aj p)<|W p p (aI _) (fun g13=>wv<|cm underlying105<|aC p g13)<|J (dr p p)<|M p<|W p p (aI _) (fun g14=>wv<|aj p)<|W p p (aI _) (fun g15=>wv<|cm underlying266<|aC p g15)<|J (dr p p)<|M p<|W p p (aI _) (fun g16=>wv<|aj p)<|W p p (aI _) (fun g17=>wv<|cm underlying268<|aC p g17)<|J (dr p p)<|M p<|W p p (aI _) (fun g18=>wv<|aj p)<|W p p (aI _) (fun g19=>wv<|cm underlying154<|aC p g19)<|J (dr p p)<|ae<|aw p H7 (fun k20 H21=>O<|U p<|ak<|Z ⟨false,p,H21⟩) fun k20 H21=>ap<|O<|M p<|J (aZ p<|oX 1 2 3)<|aa<|D H21 en_112 fun r59 _ H22=>U p<|O<|J (aZ p<|oX 1 2 3)<|aa<|cJ (vs:=[(.agg (an.C (⟨1,2,3⟩:an)).toArray)]) (bw<|ct_pte_Put (⟨1,2,3⟩:an) _) en_155 p p<|M p<|J (al p p)<|J (al p p)<|J (av p)<|U p<|O<|M p<|J (aZ p<|we 1 5 1 1)<|aa<|D H22 en_159 fun r67 _ H23=>U p<|O<|M p<|aa<|D H23 en_157 fun r70 _ H24=>M p<|J (al p p)<|J (al p p)<|aa<|aN (l:=ao.C (⟨0,0,0,0⟩:ao)) kP p p fun b12=>aa<|aQ (k:=0) (vs:=ao.C r70.1) fK p p p p p p p<|U p<|O<|M p<|aa<|D H24 en_70 fun r74 _ H25=>U p<|O<|M p<|aa<|D H25 en_97 fun r77 _ H26=>M p<|J (al p p)<|J (al p p)<|J (av p)<|U p<|O<|M p<|aa<|D H26 en_211 fun r82 _ H27=>M p<|J (al p p)<|J (al p p)<|J (av p)<|U p<|O<|M p<|aa<|D H27 en_212 fun r86 _ H28=>U p<|O<|M p<|aa<|D H28 en_171 fun r89 _ H29=>M p<|J (al p p)<|J (al p p)<|J (av p)<|U p<|O<|J (aZ p<|build_34_0 6)<|aa<|cJ (vs:=[(.agg (ai.C (⟨6,0,0,0,0⟩:ai)).toArray)]) (bw<|kj (⟨6,0,0,0,0⟩:ai) _) en_63 p p<|M p<|J (al p p)<|J (al p p)<|J (av p)<|U p<|O<|aa<|D H29 en_213 fun r97 _ H30=>M p<|W p p (ay _) (fun g31=>wv<|aj p)<|W p p (ay _) (fun g32=>wv<|bR (aC p g32) p)<|J (bP p p)<|M p<|W p p (ay _) (fun g33=>wv<|aj p)<|J (bP p p)<|M p<|W p p (ay _) (fun g34=>wv<|aj p)<|W p p (ay _) (fun g35=>wv<|bR (aC p g35) p)<|J (bP p p)<|M p<|W p p (ay _) (fun g36=>wv<|aj p)<|J (bP p p)<|M p<|W p p (ay _) (fun g37=>wv<|aj p)<|J (bP p p)<|M p<|W p p (ay _) (fun g38=>wv<|ah lG p)<|W p p (ay _) (fun g39=>cv<|be (k:=0) bb (aC p g39) p p)<|W p p (ay _) (fun g40=>wv<|bR (aC p g40) p)<|J (bP p p)<|M p<|W p p (ay _) (fun g41=>wv<|aj p)<|W p p (ay _) (fun g42=>wv<|bR (aC p g42) p)<|J (bP p p)<|M p<|W p p (ay _) (fun g43=>wv<|aj p)<|W p p (ay _) (fun g44=>wv<|bR (aC p g44) p)<|J (bP p p)<|M p<|W p p (ay _) (fun g45=>wv<|aj p)<|J (bP p p)<|M p<|W p p (ay _) (fun g46=>wv<|aj p)<|W p p (ay _) (fun g47=>wv<|bR (aC p g47) p)<|J (bP p p)<|M p<|W p p (ay _) (fun g48=>wv<|aj p)<|W p p (ay _) (fun g49=>wv<|bR (aC p g49) p)<|J (bP p p)<|M p<|W p p (ay _) (fun g50=>wv<|aj p)<|bU H30 (fun k52 H53=>G (F k52)<|gc H53 en_214 (aR (aC p k52)<|aR p bO) p fun r141 _ H54=>J (aT p k52 p)<|M p<|W p p (ay _) (fun g55=>wv<|aj p)<|bU H54 (fun k57 H58=>G (F k57)<|gc H58 en_215 (aR (aC p k57)<|aR p bO) p fun r145 _ H59=>J (aT p k57 p)<|M p<|W p p (ay _) (fun g60=>wv<|aj p)<|W p p (ay _) (fun g61=>wv<|bR (aC p g61) p)<|J (bP p p)<|M p<|W p p (ay _) (fun g62=>wv<|aj p)<|J (bP p p)<|M p<|W p p (ay _) (fun g63=>wv<|aj p)<|bU H59 (fun k65 H66=>G (F k65)<|gc H66 en_162 (aR (aC p k65)<|aR p<|aR p<|aR p bO) p fun r156 _ H67=>J (aT p k65 p)<|M p<|W p p (ay _) (fun g68=>wv<|aj p)<|J (bP p p)<|M p<|W p p (ay _) (fun g69=>wv<|aj p)<|W p p (ay _) (fun g70=>wv<|bR (aC p g70) p)<|J (bP p p)<|M p<|W p p (ay _) (fun g71=>wv<|aZ p<|fe 6 8 0 1)<|bU H67 (fun k73 H74=>G (F k73)<|gc H74 en_110 (aR (aC p k73)<|aR p bO) p fun r167 _ H75=>G (F k73)<|z_p (bR p p)<|J (aT p k73 p)<|M p<|bU H75 (fun k77 H78=>G (F k77)<|D H78 en_216 fun r171 _ H79=>G (F k77)<|z_p (bR p p)<|J (aT p k77 p)<|M p<|db (vs:=[(.int .i64 1),(.int .i64 3)]) p p p (ay _) (fun g80=>bw<|df 1 3 _) mF (fun g80=>p) p<|J (bP p p)<|M p<|W p p (ay _) (fun g81=>wv<|aj p)<|bU H79 (fun k83 H84=>G (F k83)<|gc H84 en_176 (aR (aC p k83)<|aR p bO) p fun r179 _ H85=>G (F k83)<|z_p (dv p underlying39 p)<|G (F k83)<|z_p (bR p p)<|J (aT p k83 p)<|M p<|W p p (ay _) (fun g86=>wv<|aj p)<|bU H85 (fun k88 H89=>G (F k88)<|gc H89 en_217 (aR (aC p k88) bO) p fun r185 _ H90=>G (F k88)<|z_p (bR p p)<|J (aT p k88 p)<|U p<|ak<|Z ⟨(r185 == 2),p,H90⟩) fun k88 H89=>Y (aU k88)<|Y (aU k88)<|J (au p k88 p)<|U p<|ak<|Z ⟨false,p,H89⟩) fun k83 H84=>Y (aU k83)<|Y (aU k83)<|Y (aU k83)<|J (au p k83 p)<|M p<|Y p<|Y p<|Y p<|J (au p p p)<|U p<|ak<|Z ⟨false,p,H84⟩) fun k77 H78=>Y (aU k77)<|Y (aU k77)<|J (au p k77 p)<|M p<|Y p<|J (au p p p)<|M p<|Y p<|Y p<|Y p<|Y p<|J (au p p p)<|M p<|Y p<|Y p<|Y p<|J (au p p p)<|U p<|ak<|Z ⟨false,p,H78⟩) fun k73 H74=>Y (aU k73)<|Y (aU k73)<|J (au p k73 p)<|M p<|Y p<|Y p<|J (au p p p)<|M p<|Y p<|J (au p p p)<|M p<|Y p<|Y p<|Y p<|Y p<|J (au p p p)<|M p<|Y p<|Y p<|Y p<|J (au p p p)<|U p<|ak<|Z ⟨false,p,H74⟩) fun k65 H66=>Y (aU k65)<|J (au p k65 p)<|M p<|Y p<|J (au p p p)<|M p<|Y p<|Y p<|J (au p p p)<|M p<|Y p<|Y p<|Y p<|J (au p p p)<|M p<|Y p<|Y p<|J (au p p p)<|M p<|Y p<|J (au p p p)<|M p<|Y p<|Y p<|Y p<|Y p<|J (au p p p)<|M p<|Y p<|Y p<|Y p<|J (au p p p)<|U p<|ak<|Z ⟨false,p,H66⟩) fun k57 H58=>Y (aU k57)<|J (au p k57 p)<|M p<|Y p<|Y p<|J (au p p p)<|M p<|Y p<|J (au p p p)<|M p<|Y p<|Y p<|J (au p p p)<|M p<|Y p<|J (au p p p)<|M p<|Y p<|Y p<|J (au p p p)<|M p<|Y p<|Y p<|Y p<|J (au p p p)<|M p<|Y p<|Y p<|J (au p p p)<|M p<|Y p<|J (au p p p)<|M p<|Y p<|Y p<|Y p<|Y p<|J (au p p p)<|M p<|Y p<|Y p<|Y p<|J (au p p p)<|U p<|ak<|Z ⟨false,p,H58⟩) fun k52 H53=>Y (aU k52)<|J (au p k52 p)<|M p<|Y p<|Y p<|J (au p p p)<|M p<|Y p<|Y p<|J (au p p p)<|M p<|Y p<|J (au p p p)<|M p<|Y p<|Y p<|J (au p p p)<|M p<|Y p<|J (au p p p)<|M p<|Y p<|Y p<|J (au p p p)<|M p<|Y p<|Y p<|Y p<|J (au p p p)<|M p<|Y p<|Y p<|J (au p p p)<|M p<|Y p<|J (au p p p)<|M p<|Y p<|Y p<|Y p<|Y p<|J (au p p p)<|M p<|Y p<|Y p<|Y p<|J (au p p p)<|U p<|ak<|Z ⟨false,p,H53⟩
def pA (K:Bool->Hp->Prop):Hp->Prop:=cl prog lv [] aB fun r1=>K r1
theorem wH {K:Bool->Hp->Prop} {h:Hp} (H:pA K h):cl prog lw [] aB K h:=z_i func146 p p fun _=>O<|U p<|O<|aa<|D H en_187 fun r1 _ H1=>U p<|ak<|Z ⟨r1,p,H1⟩
end
section
open Go Mb
variable {ET:Nat} {EF:Nat × Nat}
section
variable {l:List As} {h:Hp} {x:Ptr}
theorem mem_nn {fs:List (List Int)} (s:aE (il x fs::l) h):x.isNone = false:=by obtain ⟨b,_,_,rfl,_⟩:=mem_op s; rfl
theorem nn_of {α:Type} {φ:α->Prop} {m:α->List As} (hx:∀ z,φ z->x.isNone = false) (s:aE ((fun h=>∃ z,φ z/\aE (m z) h)::l) h):x.isNone = false:=by
 obtain ⟨z,f,_⟩:=op_ s
 exact hx z f
theorem table_nn {ps:List Pte} (s:aE (cZ x ps::l) h):x.isNone = false:=nn_of (fun _ e=>by rw [e.1]; rfl) s
theorem tlb_nn {t:List TL × Int} (s:aE (fF x t::l) h):x.isNone = false:=nn_of (fun _ e=>by rw [e.1]; rfl) s
theorem mail_nn {bs:List (List Int)} (s:aE (jl x bs::l) h):x.isNone = false:=nn_of (fun _ e=>by rw [e.1]; rfl) s
theorem cell_nn {c:Int × Int} (s:aE (kM x c::l) h):x.isNone = false:=nn_of (fun _ e=>by rw [e]; rfl) s
theorem lock_nn {k:(Int × Int) × (Int × Int)} (s:aE (uV x k::l) h):x.isNone = false:=nn_of (fun _ e=>by rw [e]; rfl) s
theorem pool_nn {p:List Int} (s:aE (fU x p::l) h):x.isNone = false:=nn_of (fun _ e=>by rw [e.1]; rfl) s
end
theorem sp_Begun1:Sp prog ly [] aB [(etB ET EF)] (fun r=>pa_ (r = true) [(etB ET EF)]):=by
 intro h st
 refine wJ ?_
 unfold pC
 exact bQ (i:=0) sp_begun1 rfl st fun r h' hr s=>aX hr s
theorem sp_begun2:Sp prog lv [] aB [(etB ET EF)] (fun r=>pa_ (r = true) [(etB ET EF)]):=by
 intro h st
 refine wG ?_
 unfold pz
 refine lJ (sp_mem_New 2 (by decide) (by decide)) st fun a1 h1 s1=>?_
 refine lJ oq s1 fun a2 h2 s2=>?_
 refine lJ wo s2 fun a3 h3 s3=>?_
 refine lJ (sp_mail_New 3 (by decide) (by decide)) s3 fun a4 h4 s4=>?_
 refine lJ (sp_cell_New 5) s4 fun a5 h5 s5=>?_
 refine lJ sp_ticket_New s5 fun a6 h6 s6=>?_
 refine lJ (sp_pool_New 2 (by decide) (by decide)) s6 fun a7 h7 s7=>?_
 have n1:=mem_nn s1
 have n2:=table_nn s2
 have n3:=tlb_nn s3
 have n4:=mail_nn s4
 have n5:=cell_nn s5
 have n6:=lock_nn s6
 have n7:=pool_nn s7
 rw [n1,n2,n3,n4,n5,n6,n7]
 refine dp rfl ?_
 refine bQ (i:=5) (ku a2 _ 1 ⟨1,2,3⟩) rfl s7 fun r1 h8 e1 s8=>?_
 refine bQ (i:=4) (sp_tlb_Fill a3 _ ⟨1,5,1,1⟩) rfl s8 fun r2 h9 e2 s9=>?_
 refine bQ (i:=4) (sp_tlb_Find a3 _ 1 5) rfl s9 fun r3 h10 e3 s10=>?_
 refine bQ (i:=3) (sp_mail_All a4 _ 0 4 (fun l hl=>?_)) rfl s10 fun r4 h11 e4 s11=>?_
 ·have:l = []:=by simpa using hl
  subst this
  exact ⟨fun _ h=>(by cases h),.nil,by decide⟩
 refine bQ (i:=3) (sp_mail_Take a4 _ 2) rfl s11 fun r5 h12 e5 s12=>?_
 refine bQ (i:=2) (sp_cell_Up a5 _ 9) rfl s12 fun r6 h13 e6 s13=>?_
 refine bQ (i:=1) (sp_ticket_Draw a6 _) rfl s13 fun r7 h14 e7 s14=>?_
 refine bQ (i:=0) (wq a7 _) rfl s14 fun r8 h15 e8 s15=>?_
 refine bQ (i:=7) sp_Begun1 rfl s15 fun r9 h16 e9 s16=>?_
 subst e1 e2 e3 e4 e5 e6 e7 e8 e9
 refine dN (by kernel_rfl) ?_
 refine bQ (i:=1) (sp_ticket_Turn a6 _ 0) rfl s16 fun r10 h17 e10 s17=>?_
 subst e10
 refine dN (by kernel_rfl) ?_
 refine bQ (i:=1) (sp_ticket_Pass a6 _ 0) rfl s17 fun r11 h18 e11 s18=>?_
 subst e11
 refine dN (by kernel_rfl) ?_
 refine bQ (i:=6) (lP a1 _ 1 3 9) rfl s18 fun r12 h19 e12 s19=>?_
 subst e12
 refine dN (by kernel_rfl) ?_
 refine tJ (jg ⟨6,8,0,1,0⟩ 2) s19 fun r13 h20 e13 s20=>?_
 subst e13
 refine dN (by kernel_rfl) ?_
 refine tJ (sp_word_Args 3) s20 fun r14 h21 e14 s21=>?_
 subst e14
 refine dN (by kernel_rfl) ?_
 refine xB (i:=5) (sp_table_By a2 _ 2) rfl s21 fun r15 h22 s22=>?_
 have e15:((r15.len:Int) == 1) = true:=by
  rw [(ci (j:=0) s22 rfl).1]
  kernel_rfl
 refine dN e15 ?_
 refine bQ (i:=1) (sp_pool_Bits a7 _) rfl s22 fun r16 h23 e16 s23=>?_
 subst e16
 refine aX (by kernel_rfl) (cd (l:=[_,_,_,_,_,_,_,_]) s23)
theorem sp_Begun2:Sp prog lw [] aB [(etB ET EF)] (fun r=>pa_ (r = true) [(etB ET EF)]):=by
 intro h st
 refine wH ?_
 unfold pA
 exact bQ (i:=0) sp_begun2 rfl st fun r h' hr s=>aX hr s
end
section
open Go Mb
def oB (K:Bool->Hp->Prop):Hp->Prop:=cl prog nN [(.agg (aJ.C (⟨1,2,2⟩:aJ)).toArray)] dI fun r23=>cl prog xg [(.int .i64 2)] sn fun r24=>cl prog nR [(.int .i64 3)] iF fun r25=>cl prog iA [] gE fun r26=>cl prog lp [] io fun r27=>cl prog vJ [(.int .i64 2)] tE fun r28=>br (((((r23.isNone || r24.isNone) || r25.isNone) || r26.isNone) || r27.isNone) || r28.isNone) ( K false) ( cl prog dz [(pv r23),(.int .i64 0),(.agg (ai.C (⟨1,1,0,0,0⟩:ai)).toArray)] bd fun r54=>cl prog dz [(pv r23),(.int .i64 0),(.agg (ai.C (⟨6,2,1,3,0⟩:ai)).toArray)] bd fun r60=>cl prog dz [(pv r23),(.int .i64 0),(.agg (ai.C (⟨21,2,5,77,0⟩:ai)).toArray)] bd fun r65=>cl prog dz [(pv r23),(.int .i64 0),(.agg (ai.C (⟨20,2,5,0,0⟩:ai)).toArray)] bd fun r69=>cl prog jG [(pv r24),(.int .i64 0),(.int .i64 1),(.int .i64 1)] bh fun r73=>cl prog ij [(pv r24),(.int .i64 0),(.int .i64 1),(.int .i64 1),(.int .i64 3),(.int .i64 1)] bh fun r75=>cl prog iS [(pv r25),(.int .i64 0)] bK fun r78=>cl prog kh [(pv r25),(.int .i64 1),(.int .u64 r78.1)] aB fun r83=>cl prog dW [(pv r27),(.int .i64 2),(.agg (an.C (⟨1,1,1⟩:an)).toArray)] bh fun r86=>cl prog n_user_Do [(pv r26),(pv r27),(pv r28),(.int .i64 0),(.agg (ai.C (⟨20,2,3,0,0⟩:ai)).toArray)] eG fun r92=>cl prog ns [(pv r23),(.int .i64 0),(.agg (ai.C (⟨7,5,0,0,0⟩:ai)).toArray)] iu fun r97=>cl prog lw [] aB fun r98=>br ((((((r98 && r54.2) && (r54.1.fXa == 0)) && (r60.1.fXa == 0)) && (r69.1.fHb == 77)) && (r73 == 0)) && (r75 == 0)) ( cl prog kZ [(pv r24),(.int .i64 0),(.int .i64 1)] cW fun r127=>br (((((r127.len:Int) == 1) && (r78.1 == 1)) && r78.2) && r83) ( cl prog jt [(pv r25),(.int .u64 1)] aB fun r143=>br (!r143) ( cl prog iR [(pv r25),(.int .u64 1)] cx fun r148=>br ((((((r148.len:Int) == 1) && (r86 == 0)) && (r92.1.fXa == 0)) && (r92.2.fEa == 1)) && (mV 3 3 4)) ( cl prog kA [(.int .i64 3)] iu fun r171=>cl prog nQ [r97,r171] aB fun r172=>br r172 ( cl prog mD [(pv r23)] cx fun r176=>K ((r176.len:Int) == 1)) ( K false)) ( K false)) ( K false)) ( K false)) ( K false))
theorem vm {K:Bool->Hp->Prop} {h:Hp} (H:oB K h):cl prog kI [] aB K h:=z_i func100 p p fun _=>O<|U p<|O<|J (aZ p<|tB 1 2 2)<|aa<|D H en_56 fun r23 _ H1=>aa<|D H1 en_106 fun r24 _ H2=>aa<|D H2 en_58 fun r25 _ H3=>J (av p)<|J (av p)<|U p<|O<|aa<|D H3 en_59 fun r26 _ H4=>aa<|D H4 en_107 fun r27 _ H5=>aa<|D H5 en_104 fun r28 _ H6=>J (av p)<|J (av p)<|U p<|am<|O<|M p<|J (cm underlying103 p)<|M p<|W p p (aI _) (fun g7=>wv<|aj p)<|W p p (aI _) (fun g8=>wv<|cm underlying155<|aC p g8)<|J (dr p p)<|M p<|W p p (aI _) (fun g9=>wv<|aj p)<|W p p (aI _) (fun g10=>wv<|cm underlying106<|aC p g10)<|J (dr p p)<|M p<|W p p (aI _) (fun g11=>wv<|aj p)<|W p p (aI _) (fun g12=>wv<|cm underlying114<|aC p g12)<|J (dr p p)<|M p<|W p p (aI _) (fun g13=>wv<|aj p)<|W p p (aI _) (fun g14=>wv<|cm underlying161<|aC p g14)<|J (dr p p)<|M p<|W p p (aI _) (fun g15=>wv<|aj p)<|W p p (aI _) (fun g16=>wv<|cm underlying152<|aC p g16)<|J (dr p p)<|ae<|aw p H6 (fun k17 H18=>O<|U p<|ak<|Z ⟨false,p,H18⟩) fun k17 H18=>ap<|O<|M p<|J (aZ p<|kl 1 1)<|aa<|D H18 en_72 fun r54 _ H19=>M p<|J (al p p)<|J (al p p)<|aa<|aN (l:=ab.C (⟨0,0⟩:ab)) cY p p fun b7=>aa<|aQ (k:=0) (vs:=ab.C r54.1) bL p p p p p p p<|U p<|O<|M p<|J (aZ p<|fe 6 2 1 3)<|aa<|D H19 en_72 fun r60 _ H20=>M p<|J (al p p)<|J (al p p)<|aa<|aN (l:=ab.C (⟨0,0⟩:ab)) cY p p fun b9=>aa<|aQ (k:=0) (vs:=ab.C r60.1) bL p p p p p p p<|U p<|O<|M p<|J (aZ p<|fe 21 2 5 77)<|aa<|D H20 en_72 fun r65 _ H21=>ae<|O<|M p<|J (aZ p<|oY 20 2 5)<|aa<|D H21 en_72 fun r69 _ H22=>M p<|J (al p p)<|J (al p p)<|aa<|aN (l:=ab.C (⟨0,0⟩:ab)) cY p p fun b11=>aa<|aQ (k:=0) (vs:=ab.C r69.1) bL p p p p p p p<|U p<|O<|M p<|aa<|D H22 en_142 fun r73 _ H23=>M p<|aa<|D H23 en_143 fun r75 _ H24=>J (av p)<|U p<|O<|M p<|aa<|D H24 en_69 fun r78 _ H25=>M p<|J (al p p)<|J (al p p)<|J (av p)<|U p<|O<|M p<|M p<|aa<|D H25 en_98 fun r83 _ H26=>U p<|O<|M p<|J (aZ p<|oX 1 1 1)<|aa<|D H26 en_112 fun r86 _ H27=>U p<|O<|M p<|M p<|M p<|J (aZ p<|oY 20 2 3)<|aa<|D H27 en_144 fun r92 _ H28=>M p<|J (al p p)<|J (al p p)<|aa<|aN (l:=ab.C (⟨0,0⟩:ab)) cY p p fun b19=>aa<|aN (l:=ao.C (⟨0,0,0,0⟩:ao)) kP p p fun b20=>aa<|aQ (k:=1) (vs:=ab.C r92.1) bL p p p p p p p<|aa<|aQ (k:=0) (vs:=ao.C r92.2) fK p p p p p p p<|ae<|O<|M p<|J (aZ p<|kl 7 5)<|aa<|D H28 en_145 fun r97 _ H29=>U p<|O<|aa<|D H29 en_146 fun r98 _ H30=>M p<|W p p (ay _) (fun g31=>wv<|aj p)<|J (bP p p)<|M p<|W p p (ay _) (fun g32=>wv<|ah iZ p)<|W p p (ay _) (fun g33=>cv<|be (k:=4) mT (aC p g33) p p)<|W p p (ay _) (fun g34=>wv<|bR (aC p g34) p)<|J (bP p p)<|M p<|W p p (ay _) (fun g35=>wv<|ah iZ p)<|W p p (ay _) (fun g36=>cv<|be (k:=3) mT (aC p g36) p p)<|W p p (ay _) (fun g37=>wv<|bR (aC p g37) p)<|J (bP p p)<|M p<|W p p (ay _) (fun g38=>wv<|ah vR p)<|W p p (ay _) (fun g39=>cv<|be (k:=2) cn (aC p g39) p p)<|W p p (ay _) (fun g40=>wv<|bR (aC p g40) p)<|J (bP p p)<|M p<|W p p (ay _) (fun g41=>wv<|aj p)<|W p p (ay _) (fun g42=>wv<|bR (aC p g42) p)<|J (bP p p)<|M p<|W p p (ay _) (fun g43=>wv<|aj p)<|W p p (ay _) (fun g44=>wv<|bR (aC p g44) p)<|J (bP p p)<|M p<|W p p (ay _) (fun g45=>wv<|aj p)<|bU H30 (fun k47 H48=>G (F k47)<|gc H48 en_147 (aR (aC p k47)<|aR p<|aR p bO) p fun r127 _ H49=>G (F k47)<|z_p (dv p underlying201 p)<|G (F k47)<|z_p (bR p p)<|J (aT p k47 p)<|M p<|W p p (ay _) (fun g50=>wv<|aj p)<|W p p (ay _) (fun g51=>wv<|bR (aC p g51) p)<|J (bP p p)<|M p<|W p p (ay _) (fun g52=>wv<|aj p)<|J (bP p p)<|M p<|W p p (ay _) (fun g53=>wv<|aj p)<|J (bP p p)<|M p<|W p p (ay _) (fun g54=>wv<|aj p)<|bU H49 (fun k56 H57=>G (F k56)<|gc H57 en_71 (aR (aC p k56)<|aR p bO) p fun r143 _ H58=>G (F k56)<|z_p (ct p)<|J (aT p k56 p)<|M p<|W p p (ay _) (fun g59=>wv<|aj p)<|bU H58 (fun k61 H62=>G (F k61)<|gc H62 en_121 (aR (aC p k61)<|aR p bO) p fun r148 _ H63=>G (F k61)<|z_p (dv p underlying39 p)<|G (F k61)<|z_p (bR p p)<|J (aT p k61 p)<|M p<|W p p (ay _) (fun g64=>wv<|aj p)<|W p p (ay _) (fun g65=>wv<|bR (aC p g65) p)<|J (bP p p)<|M p<|W p p (ay _) (fun g66=>wv<|ah iZ p)<|W p p (ay _) (fun g67=>cv<|be (k:=1) mT (aC p g67) p p)<|W p p (ay _) (fun g68=>wv<|bR (aC p g68) p)<|J (bP p p)<|M p<|W p p (ay _) (fun g69=>wv<|ah lG p)<|W p p (ay _) (fun g70=>cv<|be (k:=0) bb (aC p g70) p p)<|W p p (ay _) (fun g71=>wv<|bR (aC p g71) p)<|J (bP p p)<|M p<|db (vs:=[(.int .i64 3),(.int .u64 3),(.int .u64 4)]) p p p (ay _) (fun g72=>bw<|uZ 3 3 4 _) en_148 (fun g72=>p) p<|J (bP p p)<|M p<|W p p (ay _) (fun g73=>wv<|aj p)<|bU H63 (fun k75 H76=>G (F k75)<|D H76 xz fun r171 _ H77=>G (F k75)<|gc H77 en_149 (aR (aC p k75)<|aR p bO) p fun r172 _ H78=>J (aT p k75 p)<|M p<|W p p (ay _) (fun g79=>wv<|aj p)<|bU H78 (fun k81 H82=>G (F k81)<|gc H82 en_54 (aR (aC p k81) bO) p fun r176 _ H83=>G (F k81)<|z_p (dv p underlying39 p)<|G (F k81)<|z_p (bR p p)<|J (aT p k81 p)<|U p<|ak<|Z ⟨((r176.len:Int) == 1),p,H83⟩) fun k81 H82=>Y (aU k81)<|Y (aU k81)<|Y (aU k81)<|J (au p k81 p)<|U p<|ak<|Z ⟨false,p,H82⟩) fun k75 H76=>Y (aU k75)<|Y (aU k75)<|J (au p k75 p)<|M p<|Y p<|Y p<|Y p<|Y p<|J (au p p p)<|U p<|ak<|Z ⟨false,p,H76⟩) fun k61 H62=>Y (aU k61)<|Y (aU k61)<|Y (aU k61)<|J (au p k61 p)<|M p<|Y p<|Y p<|J (au p p p)<|M p<|Y p<|Y p<|Y p<|J (au p p p)<|M p<|Y p<|Y p<|Y p<|J (au p p p)<|M p<|Y p<|J (au p p p)<|M p<|Y p<|Y p<|Y p<|J (au p p p)<|M p<|Y p<|Y p<|Y p<|Y p<|J (au p p p)<|U p<|ak<|Z ⟨false,p,H62⟩) fun k56 H57=>Y (aU k56)<|Y (aU k56)<|J (au p k56 p)<|M p<|Y p<|Y p<|Y p<|Y p<|J (au p p p)<|M p<|Y p<|Y p<|J (au p p p)<|M p<|Y p<|Y p<|Y p<|J (au p p p)<|M p<|Y p<|Y p<|Y p<|J (au p p p)<|M p<|Y p<|J (au p p p)<|M p<|Y p<|Y p<|Y p<|J (au p p p)<|M p<|Y p<|Y p<|Y p<|Y p<|J (au p p p)<|U p<|ak<|Z ⟨false,p,H57⟩) fun k47 H48=>Y (aU k47)<|Y (aU k47)<|Y (aU k47)<|J (au p k47 p)<|M p<|Y p<|Y p<|J (au p p p)<|M p<|Y p<|J (au p p p)<|M p<|Y p<|J (au p p p)<|M p<|Y p<|Y p<|Y p<|J (au p p p)<|M p<|Y p<|Y p<|Y p<|Y p<|J (au p p p)<|M p<|Y p<|Y p<|J (au p p p)<|M p<|Y p<|Y p<|Y p<|J (au p p p)<|M p<|Y p<|Y p<|Y p<|J (au p p p)<|M p<|Y p<|J (au p p p)<|M p<|Y p<|Y p<|Y p<|J (au p p p)<|M p<|Y p<|Y p<|Y p<|Y p<|J (au p p p)<|U p<|ak<|Z ⟨false,p,H48⟩
def oC (K:Bool->Hp->Prop):Hp->Prop:=cl prog kI [] aB fun r1=>K r1
theorem vn {K:Bool->Hp->Prop} {h:Hp} (H:oC K h):cl prog kJ [] aB K h:=z_i func50 p p fun _=>O<|U p<|O<|aa<|D H en_100 fun r1 _ H1=>U p<|ak<|Z ⟨r1,p,H1⟩
end
section
open Go Mb
variable {ET:Nat} {EF:Nat × Nat}
section
variable {l:List As} {h:Hp} {x:Ptr}
theorem plain_nn {k:PK} (s:aE (bq x k::l) h):x.isNone = false:=nn_of (fun _ e=>by rw [e.1]; rfl) s
theorem tree_nn {k:fAa.T} (s:aE (cH x k::l) h):x.isNone = false:=nn_of (fun _ e=>by rw [e.1]; rfl) s
theorem epochs_nn {k:List Int × List Int} (s:aE (eY x k::l) h):x.isNone = false:=nn_of (fun _ e=>by rw [e.1]; rfl) s
end
theorem sp_plain_Err (x:Ptr) (k:PK) (e:Int) (c:ai) (h1:(PK.do_ k e c).1.2 = true) (h2:(PK.do_ k e c).1.1.fXa ≠ 0):Sp prog ns [pv x,.int .i64 e,.agg c.C.toArray] iu [(etB ET EF),bq x k]
  (fun r=>ex fun b:Nat × Nat=>pa_ (r = dw b.1) [trB b.1 ⟨(PK.do_ k e c).1.1.fXa,e,c,dw b.2⟩,(etB ET EF),bq x k]):=by
 intro h st
 have hn:=plain_nn (bc [1] st rfl)
 refine sim_plain_Kernel_Err _ _ _ ?_
 unfold rE
 refine dp hn ?_
 refine xB (i:=1) (uK x k) rfl st fun y g1 s1=>?_
 refine bQ (i:=0) (jP y k e c) rfl s1 fun r g2 hr s2=>?_
 subst hr
 refine dp (by rw [h1]; rfl) ?_
 refine cQ [] (rest:=[_,_,_]) (sp_Of _ h2) s2 rfl fun r g3 s3=>?_
 obtain ⟨b,x3⟩:=uB s3
 obtain ⟨rfl,y3⟩:=bu.1 x3
 refine cQ [2,0] (rest:=[_,_]) (sp_In e c b _) y3 rfl fun r g4 s4=>?_
 obtain ⟨d,x4⟩:=uB s4
 obtain ⟨rfl,y4⟩:=bu.1 x4
 refine ⟨(d,b),aX rfl (cd (l:=[_,_]) (bc [2,2] y4 rfl))⟩
theorem sp_begun11:Sp prog kI [] aB [(etB ET EF)] (fun r=>pa_ (r = true) [(etB ET EF)]):=by
 intro h st
 refine vm ?_
 unfold oB
 refine lJ (rT ⟨1,2,2⟩ (by decide)) st fun a1 h1 s1=>?_
 refine lJ (sp_caps_New 2 (by decide) (by decide)) s1 fun a2 h2 s2=>?_
 refine lJ (rV 3 (by decide) (by decide)) s2 fun a3 h3 s3=>?_
 refine lJ wo s3 fun a4 h4 s4=>?_
 refine lJ oq s4 fun a5 h5 s5=>?_
 refine lJ (sp_mem_New 2 (by decide) (by decide)) s5 fun a6 h6 s6=>?_
 have n1:=plain_nn s1
 have n2:=tree_nn s2
 have n3:=epochs_nn s3
 have n4:=tlb_nn s4
 have n5:=table_nn s5
 have n6:=mem_nn s6
 rw [n1,n2,n3,n4,n5,n6]
 refine dp rfl ?_
 refine bQ (i:=5) (jP a1 _ 0 ⟨1,1,0,0,0⟩) rfl s6 fun r1 h7 e1 s7=>?_
 refine bQ (i:=5) (jP a1 _ 0 ⟨6,2,1,3,0⟩) rfl s7 fun r2 h8 e2 s8=>?_
 refine bQ (i:=5) (jP a1 _ 0 ⟨21,2,5,77,0⟩) rfl s8 fun r3 h9 e3 s9=>?_
 refine bQ (i:=5) (jP a1 _ 0 ⟨20,2,5,0,0⟩) rfl s9 fun r4 h10 e4 s10=>?_
 refine bQ (i:=4) (wx a2 _ 0 1 1) rfl s10 fun r5 h11 e5 s11=>?_
 refine bQ (i:=4) (sH a2 _ 0 1 1 3 1) rfl s11 fun r6 h12 e6 s12=>?_
 refine bQ (i:=3) (sp_epoch_Begin a3 _ 0 (by decide)) rfl s12 fun r7 h13 e7 s13=>?_
 subst e7
 refine bQ (i:=3) (sp_epoch_Ack a3 _ 1 _) rfl s13 fun r8 h14 e8 s14=>?_
 refine bQ (i:=1) (ku a5 _ 2 ⟨1,1,1⟩) rfl s14 fun r9 h15 e9 s15=>?_
 refine cQ [2,1,0] (rest:=[_,_,_,_]) (sp_user_Do a4 a5 a6 _ _ _ 0 ⟨20,2,3,0,0⟩) s15 rfl fun r10 h16 x16=>?_
 obtain ⟨e10,s16⟩:=bu.1 x16
 subst e1 e2 e3 e4 e5 e6 e8 e9 e10
 refine cQ [6,5] (rest:=[_,_,_,_,_]) (sp_plain_Err a1 _ 0 ⟨7,5,0,0,0⟩ (by kernel_rfl) (by decide)) s16 rfl fun r11 h17 x17=>?_
 obtain ⟨⟨b,b'⟩,z17⟩:=uB x17
 obtain ⟨rfl,s17⟩:=bu.1 z17
 refine bQ (i:=1) sp_Begun2 rfl s17 fun r12 h18 e12 s18=>?_
 subst e12
 refine dN (by kernel_rfl) ?_
 refine xB (i:=7) (sp_caps_Below a2 _ 0 1) rfl s18 fun r13 h19 s19=>?_
 have e13:((r13.len:Int) == 1) = true:=by
  rw [(ci (j:=0) s19 rfl).1]
  kernel_rfl
 rw [e13]
 refine dN (by kernel_rfl) ?_
 refine bQ (i:=7) (sp_epoch_Done a3 _ 1) rfl s19 fun r14 h20 e14 s20=>?_
 subst e14
 refine dN (by kernel_rfl) ?_
 refine xB (i:=7) (sp_epoch_Waits a3 _ 1) rfl s20 fun r15 h21 s21=>?_
 have e15:((r15.len:Int) == 1) = true:=by
  rw [(ci (j:=0) s21 rfl).1]
  kernel_rfl
 rw [e15]
 refine dN (by kernel_rfl) ?_
 refine cQ [] (rest:=[_,_,_,_,_,_,_,_,_,_]) (sp_Of 3 (by decide)) s21 rfl fun r16 h22 x22=>?_
 obtain ⟨d,z22⟩:=uB x22
 obtain ⟨rfl,s22⟩:=bu.1 z22
 refine cQ [3,0] (rest:=[_,_,_,_,_,_,_,_,_]) (sp_Is1 b d _ tr3 (by kernel_rfl) (.inr ⟨b',by kernel_rfl⟩)) s22 rfl fun r17 h23 x23=>?_
 obtain ⟨rfl,s23⟩:=bu.1 x23
 refine dN rfl ?_
 refine xB (i:=5) (sp_plain_Free a1 _) rfl s23 fun r18 h24 s24=>?_
 have e18:((r18.len:Int) == 1) = true:=by
  rw [(ci (j:=0) s24 rfl).1]
  kernel_rfl
 exact aX e18 (cd (l:=[_,_,_,_,_,_,_,_,_,_,_]) (bc [0,0,0,0,0,1,1,1,1,1,1] s24 rfl))
theorem sp_Begun11:Sp prog kJ [] aB [(etB ET EF)] (fun r=>pa_ (r = true) [(etB ET EF)]):=by
 intro h st
 refine vn ?_
 unfold oC
 exact bQ (i:=0) sp_begun11 rfl st fun r h' hr s=>aX hr s
end
end Go.Proofs.YtemoifebbhoinaaGreatDoor
