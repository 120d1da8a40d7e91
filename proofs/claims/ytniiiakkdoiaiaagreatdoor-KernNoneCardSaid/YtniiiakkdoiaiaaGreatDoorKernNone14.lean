/- Part of the proof of: The law KernNone returns true for every input, and leaves its arguments as they were. -/
import Derived.Test.YtniiiakkdoiaiaaGreatDoorKernNone13
set_option linter.all false
namespace Go.Proofs.YtniiiakkdoiaiaaGreatDoor
open Go Mb
set_option linter.unusedVariables false
def sh_trap_Of (a0:Int) (K:Value→Hp→Prop):Hp→Prop:=br (a0 == 0) ( K Value.nilIface) ( nw ns (ci.C (⟨a0,(-1),(⟨0,0,0,0,0⟩:ap),Value.nilIface⟩:ci)) fun b7=>hpv Tryz.prog (Instr.makeInterface bp (.pointer (some ⟨b7,0,none⟩))) encV fun (v8:Value)=>K v8)
set_option maxRecDepth 20000 in
theorem sim_trap_Of (a0:Int) {K:Value→Hp→Prop} {h:Hp} (H:sh_trap_Of a0 K h):Ct Tryz.prog kq #[(.int .i64 a0)] h fun v h'=>∃ r,v = il r∧K r h':=aA [(.int .i64 a0)] Tryz.func134 rfl rfl rfl fun _=>ag<|ab<|aa (ae rfl) rfl<|ad<|ag<|ag<|ab<|aa (ac rfl) rfl<|aa (bV rfl rfl) rfl<|ad<|aE rfl H (fun k1 H2=>ag<|ab<|aa (ae rfl) rfl<|ad<|ao<|aw (ay rfl (aD rfl)) ⟨Value.nilIface,rfl,H2⟩) (fun k1 H2=>av<|ag<|ab<|aa (ac rfl) rfl<|aa (bj rfl (build_228_0_1 a0 (-1))) rfl<|aj (hO rfl rfl rfl H2 fun b7 _ H3=>aj (be H3 (gw rfl) rfl fun v8 _ H4=>aa (ae rfl) rfl<|ad<|ao<|aw (ay rfl (aD rfl)) ⟨v8,rfl,H4⟩)))
def mz (K:(Ptr × Bool)→Hp→Prop) (b4:Nat) (s2:Bool):Hp→Prop:=br s2 ( K (none,false)) ( ld (b4,0) cP fun x13=>K (x13,true))
def uF (a0:Value) (K:(Ptr × Bool)→Hp→Prop):Hp→Prop:=nw bp [pv none] fun b4=>hpv Tryz.prog (Instr.makeInterface bN (.pointer (some ⟨b4,0,none⟩))) encV fun (v6:Value)=>cl Tryz.prog uo [a0,v6] aG fun r7=>br (!(!r7)) ( ld (b4,0) cP fun x10=>mz K b4 x10.isNone) ( mz K b4 true)
set_option maxRecDepth 20000 in
theorem sim_trap_First (a0:Value) {K:(Ptr × Bool)→Hp→Prop} {h:Hp} (H:uF a0 K h):Ct Tryz.prog jR #[a0] h fun v h'=>∃ r,v = eI r∧K r h':=aA [a0] Tryz.func202 rfl rfl rfl fun _=>ag<|ab<|aa (ae rfl) rfl<|aa (ae rfl) rfl<|ad<|ag<|ab<|aj (to_alloc zero_226 rfl rfl H fun b4 _ H1=>ad<|ag<|eG (mz K b4) (fun s2=>[(4,(.pointer (some ⟨b4,0,none⟩))),(12,(.bool s2))]) (fun s2=>[]) ( ab<|aa (ac rfl) rfl<|aj (be H1 (gw rfl) rfl fun v6 _ H7=>aj (az H7 en_207 rfl rfl fun r7 _ H8=>aa (cu rfl) rfl<|aa (ac rfl) rfl<|bO H8 (fun k10 H11=>aF rfl rfl rfl (congrArg Value.bool (cf k10)) (bd H11 sc_226 rfl (fun _=>rfl) rfl fun x10 H12=>aF rfl rfl rfl (congrArg Value.bool (cf k10)) (aJ (wv (ct Tryz.underlying226 rfl)) rfl<|aa (an rfl (cf k10) rfl) rfl<|ad<|cO x10.isNone H12 (.cons rfl (.cons rfl (.nil _))) .slnil))) (fun k10 H11=>ah rfl rfl rfl (cc (bH k10)) rfl<|ah rfl rfl rfl (cc (bH k10)) rfl<|aa (ba rfl (bH k10) rfl) rfl<|ad<|cO true H11 (.cons rfl (.cons rfl (.nil _))) .slnil)))) (fun s2 _ H3=>aE rfl H3 (fun k4 H5=>ag<|ab<|aa (ae rfl) rfl<|aa (ae rfl) rfl<|ad<|ao<|aw (bW rfl (aD rfl) (aD rfl)) ⟨(none,false),rfl,H5⟩) (fun k4 H5=>av<|ag<|ab<|aj (bd H5 sc_226 rfl (fun _=>rfl) rfl fun x13 H6=>aa (ae rfl) rfl<|aa (ae rfl) rfl<|ad<|ao<|aw (bW rfl (aD rfl) (aD rfl)) ⟨(x13,true),rfl,H6⟩))))
def sh_trap_Code (a0:Value) (K:Int→Hp→Prop):Hp→Prop:=hpv Tryz.prog (do eqGuard .eql 171 (.tmp 5) (.const Value.nilIface) a0 Value.nilIface; binOp .eql 171 a0 Value.nilIface:Sem Value) aG fun (v6:Bool)=>br v6 ( K 0) ( cl Tryz.prog jR [a0] eI fun r9=>br r9.2 ( nn r9.1 fun q14=>ld (q14.1,q14.2 + 0) (cI .i64) fun x16=>K x16) ( K 9))
set_option maxRecDepth 20000 in
theorem sim_trap_Code (a0:Value) {K:Int→Hp→Prop} {h:Hp} (H:sh_trap_Code a0 K h):Ct Tryz.prog uk #[a0] h fun v h'=>∃ r,v = bu r∧K r h':=aA [a0] Tryz.func189 rfl rfl rfl fun _=>ag<|ab<|aa (ae rfl) rfl<|ad<|ag<|ag<|ab<|aa (ac rfl) rfl<|aj (be H (gj rfl rfl) rfl fun v6 _ H1=>ad<|aE rfl H1 (fun k2 H3=>ag<|ab<|aa (ae rfl) rfl<|ad<|ao<|aw (ay rfl (aD rfl)) ⟨0,rfl,H3⟩) (fun k2 H3=>av<|ag<|ag<|ab<|aa (ac rfl) rfl<|aj (az H3 en_202 rfl rfl fun r9 _ H4=>aa (ac rfl) rfl<|aa (aq rfl rfl) rfl<|aa (aq rfl rfl) rfl<|aa (ae rfl) rfl<|aa (ae rfl) rfl<|ad<|ag<|ab<|aa (ac rfl) rfl<|ad<|aE rfl H4 (fun k5 H6=>ag<|ab<|aa (ac rfl) rfl<|bJ H6 fun q14 e7 H8=>aa (aS (aV rfl (ax e7))) rfl<|aa (am vy rfl) rfl<|aj (bd H8 ow rfl (fun _=>rfl) rfl fun x16 H9=>aa (ae rfl) rfl<|ad<|ao<|aw (ay rfl (aD rfl)) ⟨x16,rfl,H9⟩)) (fun k5 H6=>av<|ag<|ab<|aa (ae rfl) rfl<|ad<|ao<|aw (ay rfl (aD rfl)) ⟨9,rfl,H6⟩))))
def sh_trap_In (a0:Int) (a1:ap) (a2:Value) (K:Value→Hp→Prop):Hp→Prop:=hpv Tryz.prog (do eqGuard .eql 171 (.tmp 7) (.const Value.nilIface) a2 Value.nilIface; binOp .eql 171 a2 Value.nilIface:Sem Value) aG fun (v8:Bool)=>br v8 ( K Value.nilIface) ( cl Tryz.prog uk [a2] bu fun r10=>hpv Tryz.prog (Instr.build ns #[(0,(.int .i64 r10)),(1,(.int .i64 a0)),(2,(.agg (ap.C a1).toArray)),(3,a2)]) R_trap_Trap fun (v14:ci)=>nw ns (ci.C v14) fun b15=>hpv Tryz.prog (Instr.makeInterface bp (.pointer (some ⟨b15,0,none⟩))) encV fun (v16:Value)=>K v16)
set_option maxRecDepth 20000 in
theorem sim_trap_In (a0:Int) (a1:ap) (a2:Value) {K:Value→Hp→Prop} {h:Hp} (H:sh_trap_In a0 a1 a2 K h):Ct Tryz.prog n_trap_In #[(.int .i64 a0),(.agg (ap.C a1).toArray),a2] h fun v h'=>∃ r,v = il r∧K r h':=aA [(.int .i64 a0),(.agg (ap.C a1).toArray),a2] Tryz.func168 rfl rfl rfl fun _=>ag<|ab<|aj (cQ (l:=(ap.C a1)) rfl rfl rfl fun b4=>aa (ae rfl) rfl<|ad<|ag<|ag<|ab<|aa (ac rfl) rfl<|aj (be H (gj rfl rfl) rfl fun v8 _ H1=>ad<|aE rfl H1 (fun k2 H3=>ag<|ab<|aa (ae rfl) rfl<|ad<|ao<|aw (ay rfl (aD rfl)) ⟨Value.nilIface,rfl,H3⟩) (fun k2 H3=>av<|ag<|bB (n:=9) [bx b4 27 (ap.C a1)] cA rfl (.cons_cons _ .slnil)<|ai (i:=0) (fun _ _ _ _=>id) rfl (by kernel_rfl) rfl (ve (ac rfl))<|ai (i:=2) (fun _ _ _ _=>id) rfl (by kernel_rfl) rfl (ve (ac rfl))<|ai (i:=3) (fun _ _ _ _=>id) rfl (by kernel_rfl) rfl (eD (k:=0) fA rfl rfl rfl rfl)<|ai (i:=4) (fun _ _ _ _=>id) rfl (by kernel_rfl) rfl (ve (ac rfl))<|bh (i:=1) (by kernel_rfl) (aI rfl rfl (az H3 en_189 rfl rfl fun r10 _ H4=>⟨(.cons_cons _ .slnil),bh (i:=5) (by kernel_rfl) (aI rfl rfl (be H4 (x_build (vs:=[(.int .i64 r10),(.int .i64 a0),(.agg (ap.C a1).toArray),a2]) rfl) rfl fun v14 _ H5=>⟨(.cons_cons _ .slnil),bh (i:=6) (by kernel_rfl) (aI rfl rfl (hO rfl rfl rfl H5 fun b15 _ H6=>⟨(.cons_cons _ .slnil),bh (i:=7) (by kernel_rfl) (aI rfl rfl (be H6 (gw rfl) rfl fun v16 _ H7=>⟨(.cons_cons _ .slnil),ai (i:=8) (fun _ _ _ _=>id) rfl (by kernel_rfl) rfl (ve (ae rfl))<|bf (by kernel_rfl)<|ao<|aw (ay rfl (aD rfl)) ⟨v16,rfl,H7⟩⟩))⟩))⟩))⟩)))))
def mA (K:Int→Hp→Prop) (Rec3:(Int × Ptr × Bool)→Hp→Prop) (s2:Int × Ptr × Bool):Hp→Prop:=br s2.2.2 ( nn s2.2.1 fun q14=>ld (q14.1,q14.2 + 7) cV fun x16=>cl Tryz.prog jR [x16] eI fun r17=>Rec3 ((IntKind.i64.wrap (s2.1 + 1)),r17.1,r17.2)) ( K s2.1)
def sh_trap_Depth (a0:Value) (K:Int→Hp→Prop):Hp→Prop:=cl Tryz.prog jR [a0] eI fun r8=>Lp (mA K) (0,r8.1,r8.2)
set_option maxRecDepth 20000 in
theorem sim_trap_Depth (a0:Value) {K:Int→Hp→Prop} {h:Hp} (H:sh_trap_Depth a0 K h):Ct Tryz.prog wL #[a0] h fun v h'=>∃ r,v = dQ r∧K r h':=aA [a0] Tryz.func208 rfl rfl rfl fun _=>ag<|ab<|aa (ae rfl) rfl<|ad<|ag<|ab<|aa (ae rfl) rfl<|ad<|ag<|ag<|ab<|aa (ac rfl) rfl<|aj (az H en_202 rfl rfl fun r8 _ H1=>aa (ac rfl) rfl<|aa (aq rfl rfl) rfl<|aa (aq rfl rfl) rfl<|aa (ae rfl) rfl<|aa (ae rfl) rfl<|ad<|aH<|bR (step:=mA K) (fun s2=>[(3,(.int .i64 s2.1)),(4,(pv s2.2.1)),(5,(.bool s2.2.2))]) (fun s2=>[]) H1 (.cons rfl (.cons rfl (.cons rfl (.nil _)))) .slnil (fun Rec3 s2 _ H4=>ag<|ag<|ab<|aa (ac rfl) rfl<|ad<|aE rfl H4 (fun k5 H6=>av<|ag<|aH<|ab<|aa (ac rfl) rfl<|aa (bK rfl rfl) rfl<|aa (ae rfl) rfl<|ad<|ab<|aa (ac rfl) rfl<|bJ H6 fun q14 e7 H8=>aa (aS (aV rfl (ax e7))) rfl<|aa (am fld_228_3 rfl) rfl<|aj (bd H8 sc_171 rfl (fun _=>rfl) rfl fun x16 H9=>aj (az H9 en_202 rfl rfl fun r17 _ H10=>aa (ac rfl) rfl<|aa (aq rfl rfl) rfl<|aa (aq rfl rfl) rfl<|aa (ae rfl) rfl<|aa (ae rfl) rfl<|ad<|cU ((IntKind.i64.wrap (s2.1 + 1)),r17.1,r17.2) H10 (.cons rfl (.cons rfl (.cons rfl (.nil _)))) .slnil))) (fun k5 H6=>bz<|ag<|ab<|aa (ac rfl) rfl<|aa (ae rfl) rfl<|ad<|ao<|aw (ay rfl (aD rfl)) ⟨s2.1,rfl,H6⟩)))
def mV (a0:Ptr) (K:ByteArray→Hp→Prop):Hp→Prop:=br a0.isNone ( K (⟨#[]⟩:ByteArray)) ( nn a0 fun q7=>ld (q7.1,q7.2 + 0) (cI .i64) fun x9=>cl Tryz.prog ta [(.int .i64 x9)] dU fun r10=>hpv Tryz.prog (do eqGuard .add 9 (.const (.string (⟨#[116,114,97,112,32]⟩:ByteArray))) (.tmp 10) (.string (⟨#[116,114,97,112,32]⟩:ByteArray)) (.string r10); binOp .add 9 (.string (⟨#[116,114,97,112,32]⟩:ByteArray)) (.string r10):Sem Value) dU fun (v11:ByteArray)=>ld (q7.1,q7.2 + 7) cV fun x15=>hpv Tryz.prog (do eqGuard .neq 171 (.tmp 15) (.const Value.nilIface) x15 Value.nilIface; binOp .neq 171 x15 Value.nilIface:Sem Value) aG fun (v16:Bool)=>br v16 ( ld (q7.1,q7.2 + 7) cV fun x21=>cln Tryz.prog (callMethod x21 "Error" #[]) dU fun (v22:ByteArray)=>hpv Tryz.prog (do eqGuard .add 9 (.const (.string (⟨#[58,32]⟩:ByteArray))) (.tmp 22) (.string (⟨#[58,32]⟩:ByteArray)) (.string v22); binOp .add 9 (.string (⟨#[58,32]⟩:ByteArray)) (.string v22):Sem Value) dU fun (v23:ByteArray)=>hpv Tryz.prog (do eqGuard .add 9 (.tmp 17) (.tmp 23) (.string v11) (.string v23); binOp .add 9 (.string v11) (.string v23):Sem Value) dU fun (v24:ByteArray)=>K v24) ( K v11))
set_option maxRecDepth 20000 in
theorem rj (a0:Ptr) {K:ByteArray→Hp→Prop} {h:Hp} (H:mV a0 K h):Ct Tryz.prog iJ #[(pv a0)] h fun v h'=>∃ r,v = dU r∧K r h':=aA [(pv a0)] Tryz.func233 rfl rfl rfl fun _=>ag<|ab<|aa (ae rfl) rfl<|ad<|ag<|ag<|ab<|aa (ac rfl) rfl<|aa (ct Tryz.underlying226 rfl) rfl<|ad<|aE rfl H (fun k1 H2=>ag<|ab<|aa (ae rfl) rfl<|ad<|ao<|aw (ay rfl (aD rfl)) ⟨(⟨#[]⟩:ByteArray),rfl,H2⟩) (fun k1 H2=>av<|ag<|ab<|aa (ac rfl) rfl<|bJ H2 fun q7 e3 H4=>aa (aS (aV rfl (ax e3))) rfl<|aa (am vy rfl) rfl<|aj (bd H4 ow rfl (fun _=>rfl) rfl fun x9 H5=>aj (az H5 en_236 rfl rfl fun r10 _ H6=>aj (be H6 (gj rfl rfl) rfl fun v11 _ H7=>aa (ae rfl) rfl<|ad<|ag<|ag<|ab<|aa (ac (aV rfl (ax e3))) rfl<|aa (aS rfl) rfl<|aa (am fld_228_3 rfl) rfl<|aj (bd H7 sc_171 rfl (fun _=>rfl) rfl fun x15 H8=>aj (be H8 (gj rfl rfl) rfl fun v16 _ H9=>ad<|aE rfl H9 (fun k10 H11=>ab<|aa (ac rfl) rfl<|aa (ac (aV rfl (ax e3))) rfl<|aa (aS rfl) rfl<|aa (am fld_228_3 rfl) rfl<|aj (bd H11 sc_171 rfl (fun _=>rfl) rfl fun x21 H12=>aj (fZ H12 (fY (vs:=[]) rfl rfl) rfl fun v22 _ H13=>aj (be H13 (gj rfl rfl) rfl fun v23 _ H14=>aj (be H14 (gj rfl rfl) rfl fun v24 _ H15=>aa (ae rfl) rfl<|ad<|ag<|ab<|aa (ac rfl) rfl<|aa (ae rfl) rfl<|ad<|ao<|aw (ay rfl (aD rfl)) ⟨v24,rfl,H15⟩))))) (fun k10 H11=>av<|ag<|ab<|aa (ac rfl) rfl<|aa (ae rfl) rfl<|ad<|ao<|aw (ay rfl (aD rfl)) ⟨v11,rfl,H11⟩)))))))
def sh_trap_Trap_Is (a0:Ptr) (a1:Value) (K:Bool→Hp→Prop):Hp→Prop:=hpv Tryz.prog (Instr.typeAssert a1 gl bp true) eI fun (v9:Ptr × Bool)=>br v9.2 ( br (!a0.isNone) ( br (!v9.1.isNone) ( nn a0 fun q23=>nn v9.1 fun q27=>ld (q23.1,q23.2 + 0) (cI .i64) fun x25=>ld (q27.1,q27.2 + 0) (cI .i64) fun x29=>K (x25 == x29)) ( K false)) ( K false)) ( K false)
set_option maxRecDepth 20000 in
theorem sim_trap_Trap_Is (a0:Ptr) (a1:Value) {K:Bool→Hp→Prop} {h:Hp} (H:sh_trap_Trap_Is a0 a1 K h):Ct Tryz.prog sY #[(pv a0),a1] h fun v h'=>∃ r,v = aG r∧K r h':=aA [(pv a0),a1] Tryz.func234 rfl rfl rfl fun _=>ag<|ab<|aa (ae rfl) rfl<|ad<|ag<|ab<|aa (ac rfl) rfl<|aj (be H (fW rfl) rfl fun v9 _ H1=>aa (ac rfl) rfl<|aa (aq rfl rfl) rfl<|aa (aq rfl rfl) rfl<|aa (ae rfl) rfl<|aa (ae rfl) rfl<|ad<|ag<|bB (n:=21) [] cA rfl .slnil<|ai (i:=0) (fun _ _ _ _=>id) rfl (by kernel_rfl) rfl (ve (ac rfl))<|ai (i:=1) (fun _ _ _ _=>id) rfl (by kernel_rfl) rfl (ve (ac rfl))<|pX H1 (fun k2 H3=>cg (i:=2) (fun _ _ _ _=>id) rfl (by kernel_rfl) rfl rfl rfl rfl (congrArg Value.bool k2) (ve (ac rfl))<|cg (i:=3) (fun _ _ _ _=>id) rfl (by kernel_rfl) rfl rfl rfl rfl (congrArg Value.bool k2) (ve (v_pneT Tryz.underlying226 rfl))<|ai (i:=4) (fun _ _ _ _=>id) rfl (by kernel_rfl) rfl (ve (ba rfl k2 rfl))<|ai (i:=5) (fun _ _ _ _=>id) rfl (by kernel_rfl) rfl (ve (ac rfl))<|pX H3 (fun k4 H5=>cg (i:=6) (fun _ _ _ _=>id) rfl (by kernel_rfl) rfl rfl rfl rfl (congrArg Value.bool k4) (ve (ac rfl))<|cg (i:=7) (fun _ _ _ _=>id) rfl (by kernel_rfl) rfl rfl rfl rfl (congrArg Value.bool k4) (ve (v_pneT Tryz.underlying226 rfl))<|ai (i:=8) (fun _ _ _ _=>id) rfl (by kernel_rfl) rfl (ve (ba rfl k4 rfl))<|ai (i:=9) (fun _ _ _ _=>id) rfl (by kernel_rfl) rfl (ve (ac rfl))<|pX H5 (fun k6 H7=>cg (i:=10) (fun _ _ _ _=>id) rfl (by kernel_rfl) rfl rfl rfl rfl (congrArg Value.bool k6) (ve (ac rfl))<|cg (i:=14) (fun _ _ _ _=>id) rfl (by kernel_rfl) rfl rfl rfl rfl (congrArg Value.bool k6) (ve (ac rfl))<|gP H7 fun q23 e8 H9=>cg (i:=11) (fun _ _ _ _=>id) rfl (by kernel_rfl) rfl rfl rfl rfl (congrArg Value.bool k6) (ve (aS (aV rfl (ax e8))))<|cg (i:=12) (fun _ _ _ _=>id) rfl (by kernel_rfl) rfl rfl rfl rfl (congrArg Value.bool k6) (ve (am vy rfl))<|gP H9 fun q27 e10 H11=>cg (i:=15) (fun _ _ _ _=>id) rfl (by kernel_rfl) rfl rfl rfl rfl (congrArg Value.bool k6) (ve (aS (aV rfl (ax e10))))<|cg (i:=16) (fun _ _ _ _=>id) rfl (by kernel_rfl) rfl rfl rfl rfl (congrArg Value.bool k6) (ve (am vy rfl))<|ma (i:=13) (fun _ _ _ _=>id) H11 rfl (by kernel_rfl) rfl rfl rfl (congrArg Value.bool k6) ow rfl (fun _=>rfl) rfl fun x25 H12=>ma (i:=17) (fun _ _ _ _=>id) H12 rfl (by kernel_rfl) rfl rfl rfl (congrArg Value.bool k6) ow rfl (fun _=>rfl) rfl fun x29 H13=>cg (i:=18) (fun _ _ _ _=>id) rfl (by kernel_rfl) rfl rfl rfl rfl (congrArg Value.bool k6) (ve (bV rfl rfl))<|ai (i:=19) (fun _ _ _ _=>id) rfl (by kernel_rfl) rfl (ve (ba rfl k6 rfl))<|ai (i:=20) (fun _ _ _ _=>id) rfl (by kernel_rfl) rfl (ve (ae rfl))<|bf (by kernel_rfl)<|ao<|aw (ay rfl (aD rfl)) ⟨(x25 == x29),rfl,H13⟩) (fun k6 H7=>bc (i:=10) (fun _ _ _ _=>id) rfl (by kernel_rfl) rfl rfl rfl rfl (aY k6)<|bc (i:=11) (fun _ _ _ _=>id) rfl (by kernel_rfl) rfl rfl rfl rfl (aY k6)<|bc (i:=12) (fun _ _ _ _=>id) rfl (by kernel_rfl) rfl rfl rfl rfl (aY k6)<|bc (i:=13) (fun _ _ _ _=>id) rfl (by kernel_rfl) rfl rfl rfl rfl (aY k6)<|bc (i:=14) (fun _ _ _ _=>id) rfl (by kernel_rfl) rfl rfl rfl rfl (aY k6)<|bc (i:=15) (fun _ _ _ _=>id) rfl (by kernel_rfl) rfl rfl rfl rfl (aY k6)<|bc (i:=16) (fun _ _ _ _=>id) rfl (by kernel_rfl) rfl rfl rfl rfl (aY k6)<|bc (i:=17) (fun _ _ _ _=>id) rfl (by kernel_rfl) rfl rfl rfl rfl (aY k6)<|bc (i:=18) (fun _ _ _ _=>id) rfl (by kernel_rfl) rfl rfl rfl rfl (aY k6)<|ai (i:=19) (fun _ _ _ _=>id) rfl (by kernel_rfl) rfl (ve (an rfl k6 rfl))<|ai (i:=20) (fun _ _ _ _=>id) rfl (by kernel_rfl) rfl (ve (ae rfl))<|bf (by kernel_rfl)<|ao<|aw (ay rfl (aD rfl)) ⟨false,rfl,H7⟩)) (fun k4 H5=>bc (i:=6) (fun _ _ _ _=>id) rfl (by kernel_rfl) rfl rfl rfl rfl (aY k4)<|bc (i:=7) (fun _ _ _ _=>id) rfl (by kernel_rfl) rfl rfl rfl rfl (aY k4)<|ai (i:=8) (fun _ _ _ _=>id) rfl (by kernel_rfl) rfl (ve (an rfl k4 rfl))<|ai (i:=9) (fun _ _ _ _=>id) rfl (by kernel_rfl) rfl (ve (ac rfl))<|bc (i:=10) (fun _ _ _ _=>id) rfl (by kernel_rfl) rfl rfl rfl rfl rfl<|bc (i:=11) (fun _ _ _ _=>id) rfl (by kernel_rfl) rfl rfl rfl rfl rfl<|bc (i:=12) (fun _ _ _ _=>id) rfl (by kernel_rfl) rfl rfl rfl rfl rfl<|bc (i:=13) (fun _ _ _ _=>id) rfl (by kernel_rfl) rfl rfl rfl rfl rfl<|bc (i:=14) (fun _ _ _ _=>id) rfl (by kernel_rfl) rfl rfl rfl rfl rfl<|bc (i:=15) (fun _ _ _ _=>id) rfl (by kernel_rfl) rfl rfl rfl rfl rfl<|bc (i:=16) (fun _ _ _ _=>id) rfl (by kernel_rfl) rfl rfl rfl rfl rfl<|bc (i:=17) (fun _ _ _ _=>id) rfl (by kernel_rfl) rfl rfl rfl rfl rfl<|bc (i:=18) (fun _ _ _ _=>id) rfl (by kernel_rfl) rfl rfl rfl rfl rfl<|ai (i:=19) (fun _ _ _ _=>id) rfl (by kernel_rfl) rfl (ve (an rfl rfl rfl))<|ai (i:=20) (fun _ _ _ _=>id) rfl (by kernel_rfl) rfl (ve (ae rfl))<|bf (by kernel_rfl)<|ao<|aw (ay rfl (aD rfl)) ⟨false,rfl,H5⟩)) (fun k2 H3=>bc (i:=2) (fun _ _ _ _=>id) rfl (by kernel_rfl) rfl rfl rfl rfl (aY k2)<|bc (i:=3) (fun _ _ _ _=>id) rfl (by kernel_rfl) rfl rfl rfl rfl (aY k2)<|ai (i:=4) (fun _ _ _ _=>id) rfl (by kernel_rfl) rfl (ve (an rfl k2 rfl))<|ai (i:=5) (fun _ _ _ _=>id) rfl (by kernel_rfl) rfl (ve (ac rfl))<|bc (i:=6) (fun _ _ _ _=>id) rfl (by kernel_rfl) rfl rfl rfl rfl rfl<|bc (i:=7) (fun _ _ _ _=>id) rfl (by kernel_rfl) rfl rfl rfl rfl rfl<|ai (i:=8) (fun _ _ _ _=>id) rfl (by kernel_rfl) rfl (ve (an rfl rfl rfl))<|ai (i:=9) (fun _ _ _ _=>id) rfl (by kernel_rfl) rfl (ve (ac rfl))<|bc (i:=10) (fun _ _ _ _=>id) rfl (by kernel_rfl) rfl rfl rfl rfl rfl<|bc (i:=11) (fun _ _ _ _=>id) rfl (by kernel_rfl) rfl rfl rfl rfl rfl<|bc (i:=12) (fun _ _ _ _=>id) rfl (by kernel_rfl) rfl rfl rfl rfl rfl<|bc (i:=13) (fun _ _ _ _=>id) rfl (by kernel_rfl) rfl rfl rfl rfl rfl<|bc (i:=14) (fun _ _ _ _=>id) rfl (by kernel_rfl) rfl rfl rfl rfl rfl<|bc (i:=15) (fun _ _ _ _=>id) rfl (by kernel_rfl) rfl rfl rfl rfl rfl<|bc (i:=16) (fun _ _ _ _=>id) rfl (by kernel_rfl) rfl rfl rfl rfl rfl<|bc (i:=17) (fun _ _ _ _=>id) rfl (by kernel_rfl) rfl rfl rfl rfl rfl<|bc (i:=18) (fun _ _ _ _=>id) rfl (by kernel_rfl) rfl rfl rfl rfl rfl<|ai (i:=19) (fun _ _ _ _=>id) rfl (by kernel_rfl) rfl (ve (an rfl rfl rfl))<|ai (i:=20) (fun _ _ _ _=>id) rfl (by kernel_rfl) rfl (ve (ae rfl))<|bf (by kernel_rfl)<|ao<|aw (ay rfl (aD rfl)) ⟨false,rfl,H3⟩))
def rm (a0:Ptr) (K:Value→Hp→Prop):Hp→Prop:=br a0.isNone ( K Value.nilIface) ( nn a0 fun q6=>ld (q6.1,q6.2 + 7) cV fun x8=>K x8)
set_option maxRecDepth 20000 in
theorem sim_trap_Trap_Unwrap (a0:Ptr) {K:Value→Hp→Prop} {h:Hp} (H:rm a0 K h):Ct Tryz.prog mY #[(pv a0)] h fun v h'=>∃ r,v = il r∧K r h':=aA [(pv a0)] Tryz.func235 rfl rfl rfl fun _=>ag<|ab<|aa (ae rfl) rfl<|ad<|ag<|ag<|ab<|aa (ac rfl) rfl<|aa (ct Tryz.underlying226 rfl) rfl<|ad<|aE rfl H (fun k1 H2=>ag<|ab<|aa (ae rfl) rfl<|ad<|ao<|aw (ay rfl (aD rfl)) ⟨Value.nilIface,rfl,H2⟩) (fun k1 H2=>av<|ag<|ab<|aa (ac rfl) rfl<|bJ H2 fun q6 e3 H4=>aa (aS (aV rfl (ax e3))) rfl<|aa (am fld_228_3 rfl) rfl<|aj (bd H4 sc_171 rfl (fun _=>rfl) rfl fun x8 H5=>aa (ae rfl) rfl<|ad<|ao<|aw (ay rfl (aD rfl)) ⟨x8,rfl,H5⟩))
end Go.Proofs.YtniiiakkdoiaiaaGreatDoor
namespace Go.Proofs.YtniiiakkdoiaiaaGreatDoor
open Go Mb
variable {ET:Nat} {EF:Nat × Nat}
abbrev dy (b:Nat):Value:=.iface bp (.pointer (some ⟨b,0,none⟩))
theorem g0:Tryz.prog.globals.size = 4:=by kernel_rfl
theorem g1:typeHandle Tryz.prog bp = pv (some (4,bp)):=by kernel_rfl
theorem g2:(Tryz.prog.globals[0]?).map (·.type) = some 223:=by kernel_rfl
theorem oneErr:((List.range 325).filter fun t=>Tryz.prog.rowNamed t [101,114,114,111,114]) = [171]:=by kernel_rfl
theorem g4:Tryz.prog.types.size = 325:=by kernel_rfl
abbrev rtV (T:Nat):Value:=.iface t_reflectlite_rtype (.agg #[pv (some (4,T))])
abbrev vl (T c f:Nat):aU:=⟨some (4,T),some (c,0),f⟩
abbrev vlV (T c f:Nat):Value:=.agg (aU.C (vl T c f)).toArray
section
variable (b:Nat) (K:Next→Hp→Prop) (h:Hp)
theorem x7:hp Tryz.prog (callFunc ga #[dy b]) K h = K (.value (rtV bp)) h:=by kernel_rfl
theorem x8:hp Tryz.prog (callFunc cZ #[.iface bN (.pointer (some ⟨b,0,none⟩))]) K h = (true = true∧∀ e,h e = none→K (.value (vlV bN e 150)) (eQ h e (.cells #[pv (some (b,0))] bN (0,0)))):=by kernel_rfl
theorem x8':hp Tryz.prog (callFunc cZ #[dy b]) K h = (true = true∧∀ e,h e = none→K (.value (vlV bp e 150)) (eQ h e (.cells #[pv (some (b,0))] bp (0,0)))):=by kernel_rfl
theorem x10:hp Tryz.prog (callMethod (rtV bN) "Kind" #[]) K h = K (.value (.int .u8 22)) h:=by kernel_rfl
theorem x11:hp Tryz.prog (callMethod (rtV bN) "Elem" #[]) K h = K (.value (rtV bp)) h:=by kernel_rfl
theorem x12:hp Tryz.prog (callMethod (rtV bp) "Kind" #[]) K h = K (.value (.int .u8 22)) h:=by kernel_rfl
theorem x13:hp Tryz.prog (callMethod (rtV bp) "Comparable" #[]) K h = K (.value (.bool true)) h:=by kernel_rfl
theorem x14:hp Tryz.prog (callMethod (rtV bp) "AssignableTo" #[rtV bp]) K h = K (.value (.bool true)) h:=by kernel_rfl
theorem x15 (c:Nat):hp Tryz.prog (callFunc io #[vlV bN c 150]) K h = K (.value (rtV bN)) h:=by kernel_rfl
theorem x16 (c:Nat):hp Tryz.prog (callFunc eV #[vlV bN c 150]) K h =
  hp Tryz.prog (do let r ← Extern.ReflectliteValue.isNil bN ⟨c,0,none⟩ 150 22; pure (.value r)) K h:=by kernel_rfl
theorem x17:hp Tryz.prog (callMethod (rtV bp) "Implements" #[rtV gl]) K h = K (.value (.bool true)) h:=by kernel_rfl
theorem x18 (c:Nat):hp Tryz.prog (callFunc fj #[vlV bN c 150]) K h =
  hp Tryz.prog (do let r ← Extern.ReflectliteValue.elem bN ⟨c,0,none⟩ 150 22; pure (.value r)) K h:=by kernel_rfl
theorem x19 (c d:Nat):hp Tryz.prog (callFunc fx #[vlV bp c 406,vlV bp d 150]) K h =
  hp Tryz.prog (do let r ← (do let v ← loadVar bp ⟨d,0,none⟩; storeVar bp ⟨c,0,none⟩ v; pure (Value.tuple #[])); pure (.value r)) K h:=by kernel_rfl
theorem y1 (c:Nat) (K:Value→Hp→Prop):hp Tryz.prog (loadVar bN ⟨c,0,none⟩) K h = ∃ v,nI h ⟨c,0,none⟩ = some v∧K v h:=by kernel_rfl
theorem y2 (c:Nat) (K:Value→Hp→Prop):hp Tryz.prog (loadVar bp ⟨c,0,none⟩) K h = ∃ v,nI h ⟨c,0,none⟩ = some v∧K v h:=by kernel_rfl
theorem y3 (b:Nat) (K:Value→Hp→Prop):hp Tryz.prog (Extern.ReflectliteValue.mk bp ⟨b,0,none⟩ Extern.ReflectliteValue.flagAddr) K h = K (vlV bp b 406) h:=by kernel_rfl
theorem y4 (K:Option TypeId→Hp→Prop):hp Tryz.prog (Extern.Rtype.elem? bN) K h = K (some bp) h:=by kernel_rfl
theorem y5 (b c:Nat) (K:Unit→Hp→Prop):hp Tryz.prog (storeVar bp ⟨c,0,none⟩ (.pointer (some ⟨b,0,none⟩))) K h = hp Tryz.prog (storeCells ⟨c,0,none⟩ [.pointer (some ⟨b,0,none⟩)]) K h:=by kernel_rfl
theorem y6 (K:Value→Hp→Prop) {a b n m:Nat}:hp Tryz.prog (do eqGuard .eql 171 (.tmp n) (.tmp m) (dy a) (dy b); binOp .eql 171 (dy a) (dy b):Sem Value) K h = hp Tryz.prog (do let r ← sameAddr ⟨a,0,none⟩ ⟨b,0,none⟩; pure (.bool r)) K h:=by kernel_rfl
theorem x25 (K:Bool→Hp→Prop) {a b:Nat} {ca cb:List Value} {Ta Tb:Nat} (ha:h a = some (.cells ca.toArray Ta (0,0))) (hb:h b = some (.cells cb.toArray Tb (0,0))) (H:K (a == b) h):hp Tryz.prog (sameAddr ⟨a,0,none⟩ ⟨b,0,none⟩) K h:=by
  unfold sameAddr
  rcases Decidable.em (a = b) with e | e
  · subst e
    rw [if_pos (by simp)]
    have H':K true h:=by simpa using H
    simpa [hp_pure] using H'
  · rw [if_neg (by simpa using e)]
    have fa:∀ (K:Bool→Hp→Prop) (o:Nat),hp Tryz.prog (frozen ⟨a,o,none⟩) K h↔K false h:=fun K o =>
      ⟨fun ⟨o',h1,h2⟩=>by rw [ha] at h1; cases h1; simpa [hp,uh] using h2,fun h2=>⟨_,ha,by simpa [hp,uh] using h2⟩⟩
    have fb:∀ (K:Bool→Hp→Prop) (o:Nat),hp Tryz.prog (frozen ⟨b,o,none⟩) K h↔K false h:=fun K o =>
      ⟨fun ⟨o',h1,h2⟩=>by rw [hb] at h1; cases h1; simpa [hp,uh] using h2,fun h2=>⟨_,hb,by simpa [hp,uh] using h2⟩⟩
    have sa:∀ (K:Option (TypeId × Nat)→Hp→Prop),hp Tryz.prog (shape a) K h↔K (some (Ta,ca.length)) h:=fun K =>
      ⟨fun ⟨o',h1,h2⟩=>by rw [ha] at h1; cases h1; simpa [hp,oshape] using h2,fun h2=>⟨_,ha,by simpa [hp,oshape] using h2⟩⟩
    have sb:∀ (K:Option (TypeId × Nat)→Hp→Prop),hp Tryz.prog (shape b) K h↔K (some (Tb,cb.length)) h:=fun K =>
      ⟨fun ⟨o',h1,h2⟩=>by rw [hb] at h1; cases h1; simpa [hp,oshape] using h2,fun h2=>⟨_,hb,by simpa [hp,oshape] using h2⟩⟩
    have eb:(a == b) = false:=by simpa using e
    rw [eb] at H
    simp [cX,fa,fb,sa,sb,noView,viewAt,mayBeOne,stringish,hp_pure,H]
end
section
variable {P:Program} {τ:Type} {enc:τ→Value} {K:τ→Hp→Prop} {h:Hp}
theorem fy {m:Sem Value} (r:τ) (e:∀ (K:Value→Hp→Prop) h,hp P m K h = K (enc r) h) (k:K r h):hpv P m enc K h:=⟨by rw [e]; exact ⟨r,rfl,k⟩⟩
theorem tA {m:Sem Next} (r:τ) (e:∀ (K:Next→Hp→Prop) h,hp P m K h = K (.value (enc r)) h) (k:K r h):cln P m enc K h:=⟨by rw [e]; exact .inl ⟨r,rfl,k⟩⟩
theorem cln_en {m:Sem Next} {f:FuncId} {vs:List Value} (e:∀ (K:Next→Hp→Prop) h,hp P m K h = K (.enter f vs.toArray) h) (k:cl P f vs enc K h):cln P m enc K h:=⟨by rw [e]; exact .inr ⟨f,_,rfl,k⟩⟩
end
abbrev etB (ET:Nat) (EF:Nat × Nat):As:=obj 0 (.cells #[rtV gl] ET EF)
abbrev trB (b:Nat) (t:ci):As:=blk b ns (ci.C t)
theorem en_0 (b n:Nat) (K:Value→Hp→Prop) (h:Hp):hp Tryz.prog (do eqGuard .eql 171 (.tmp n) (.const Value.nilIface) (dy b) Value.nilIface; binOp .eql 171 (dy b) Value.nilIface:Sem Value) K h = K (.bool false) h:=by kernel_rfl
theorem en_00 (n:Nat) (K:Value→Hp→Prop) (h:Hp):hp Tryz.prog (do eqGuard .eql 171 (.tmp n) (.const Value.nilIface) Value.nilIface Value.nilIface; binOp .eql 171 Value.nilIface Value.nilIface:Sem Value) K h = K (.bool true) h:=by kernel_rfl
theorem en_1 (b n:Nat) (K:Value→Hp→Prop) (h:Hp):hp Tryz.prog (do eqGuard .eql 20 (.tmp n) (.const Value.nilIface) (.iface bN (.pointer (some ⟨b,0,none⟩))) Value.nilIface; binOp .eql 20 (.iface bN (.pointer (some ⟨b,0,none⟩))) Value.nilIface:Sem Value) K h = K (.bool false) h:=by kernel_rfl
theorem sp_As_nil (v:Value):Sp Tryz.prog uo [Value.nilIface,v] aG [] (fun r=>pa_ (r = false) []):=by
  intro h st
  refine sim_errors_As _ _ ?_
  unfold wF
  exact fy true (en_00 _) (cT rfl (bg rfl st))
section
variable {h:Hp} {b c d:Nat}
theorem c22 {K:Bool→Hp→Prop} (e:nI h ⟨c,0,none⟩ = some (.pointer (some ⟨b,0,none⟩))) (H:K false h):cln Tryz.prog (callFunc eV #[vlV bN c 150]) aG K h:=by
  constructor
  rw [x16,cX]
  unfold Extern.ReflectliteValue.isNil
  rw [if_neg (by decide)]
  rw [cX,y1]; exact ⟨_,e,.inl ⟨false,rfl,H⟩⟩
theorem c23 {K:aU→Hp→Prop} (e:nI h ⟨c,0,none⟩ = some (.pointer (some ⟨b,0,none⟩))) (H:K (vl bp b 406) h):cln Tryz.prog (callFunc fj #[vlV bN c 150]) fD K h:=by
  constructor
  rw [x18,cX]
  unfold Extern.ReflectliteValue.elem
  rw [if_neg (by decide),cX,y1]
  refine ⟨_,e,?_⟩
  rw [cX,y4]
  show hp _ (Extern.ReflectliteValue.mk _ _ _) _ h
  rw [y3]; exact .inl ⟨_,rfl,H⟩
theorem c24 {K:Unit→Hp→Prop} (e:nI h ⟨d,0,none⟩ = some (.pointer (some ⟨b,0,none⟩))) (H:hp Tryz.prog (storeCells ⟨c,0,none⟩ [.pointer (some ⟨b,0,none⟩)]) (fun _=>K ()) h):cln Tryz.prog (callFunc fx #[vlV bp c 406,vlV bp d 150]) R_ K h:=by
  constructor
  rw [x19,cX,cX,y2]; refine ⟨_,e,?_⟩
  rw [cX,y5]; exact hp_mono _ (fun _ _ k=>.inl ⟨(),rfl,k⟩) _ H
theorem c8 {K:aU→Hp→Prop} (H:∀ e,h e = none→K (vl bN e 150) (eQ h e (.cells #[pv (some (b,0))] bN (0,0)))):cln Tryz.prog (callFunc cZ #[.iface bN (.pointer (some ⟨b,0,none⟩))]) fD K h:=by
  constructor
  rw [x8]
  exact ⟨rfl,fun e he=>.inl ⟨_,rfl,H e he⟩⟩
theorem c8' {K:aU→Hp→Prop} (H:∀ e,h e = none→K (vl bp e 150) (eQ h e (.cells #[pv (some (b,0))] bp (0,0)))):cln Tryz.prog (callFunc cZ #[dy b]) fD K h:=by
  constructor
  rw [x8']
  exact ⟨rfl,fun e he=>.inl ⟨_,rfl,H e he⟩⟩
end
theorem blk_cell {l:List As} {h:Hp} {i b:Nat} {T:TypeId} {c:List Value} {v:Value} (hi:l[i]? = some (blk b T c)) (hv:c[0]? = some v) (s:aO l h):nI h ⟨b,0,none⟩ = some v:=by
  obtain ⟨g1,a1,sub1⟩:=dZ hi s
  have:=sub1 _ _ a1
  unfold nI
  rw [this]
  simpa using hv
theorem sp_as (b c d:Nat) (p:Ptr):Sp Tryz.prog um [dy b,.iface bN (.pointer (some ⟨c,0,none⟩)),vlV bN d 150,rtV bp] aG
    [blk c bp [pv p],blk d bN [pv (some (c,0))]] (fun r=>pa_ (r = true) [blk c bp [pv (some (b,0))]]):=by
  intro h st
  refine sim_errors_as _ _ _ _ ?_
  unfold sh_errors_as
  refine ⟨fun s h=>s = dy b∧aO [blk c bp [pv p],blk d bN [pv (some (c,0))]] h,fun _ _=>0,⟨rfl,st⟩,?_⟩
  rintro _ h1 ⟨rfl,s1⟩
  unfold wZ
  refine tA (rtV bp) (fun K h=>x7 b K h) ?_
  refine tA true (fun K h=>x14 K h) (cT rfl ?_)
  refine c23 (blk_cell (i:=1) rfl rfl s1) ?_
  refine c8' fun e he=>?_
  have s2:aO (blk e bp [pv (some (b,0))]::_) _:=new_s (o:=.cells #[pv (some (b,0))] bp (0,0)) s1 he
  refine c24 (blk_cell (i:=0) (T:=bp) (c:=[pv (some (b,0))]) rfl rfl s2) ?_
  obtain ⟨g2,a2,sub2⟩:=dZ (i:=1) (A:=blk c bp [pv p]) rfl s2
  refine hp_storeCells _ 0 0 [pv p] _ (sub2 _ _ a2) (by simp) rfl ?_
  have s3:aO (_::blk c bp [pv (some (b,0))]::_) _:=obj_set (o':=.cells #[pv (some (b,0))] bp (0,0)) (i:=1) s2 rfl
  exact bg rfl (co (l:=[_,_]) (bn [0,1] s3 rfl))
theorem sp_As (b c:Nat) (p:Ptr):Sp Tryz.prog uo [dy b,.iface bN (.pointer (some ⟨c,0,none⟩))] aG
    [(etB ET EF),blk c bp [pv p]] (fun r=>pa_ (r = true) [(etB ET EF),blk c bp [pv (some (b,0))]]):=by
  intro h st
  refine sim_errors_As _ _ ?_
  unfold wF
  refine fy false (en_0 b _) (dH rfl ?_)
  refine fy false (en_1 c _) (dH rfl ?_)
  unfold xd
  refine c8 fun e he=>?_
  have s2:aO (blk e bN [pv (some (c,0))]::_) _:=new_s (o:=.cells #[pv (some (c,0))] bN (0,0)) st he
  refine tA (rtV bN) (fun K h=>x15 K h e) ?_
  refine tA 22 (fun K h=>x10 K h) (cT rfl ?_)
  refine c22 (blk_cell (i:=0) (T:=bN) (c:=[pv (some (c,0))]) rfl rfl s2) (dH rfl ?_)
  unfold xc
  refine tA (rtV bp) (fun K h=>x11 K h) ?_
  refine tA 22 (fun K h=>x12 K h) (cT rfl ?_)
  obtain ⟨g3,a3,sub3⟩:=dZ (i:=1) (A:=etB ET EF) rfl s2
  refine ⟨rtV gl,⟨_,_,_,sub3 _ _ a3,fun i v hv=>?_⟩,?_⟩
  · rcases i with _ | i <;> first | exact hv | simp [cV] at hv
  refine tA true (fun K h=>x17 K h) (dH rfl ?_)
  unfold rX
  refine cR [2,0,1] (rest:=[(etB ET EF)]) (sp_as b c e p) s2 rfl fun r h' s3=>?_
  obtain ⟨rfl,s4⟩:=bD.1 s3
  exact bg rfl (bn [1,0] s4 rfl)
abbrev firstOf (b:Nat):Ptr × Bool:=(some (b,0),true)
theorem sp_First (b:Nat):Sp Tryz.prog jR [dy b] eI [(etB ET EF)] (fun r=>pa_ (r = firstOf b) [(etB ET EF)]):=by
  intro h st
  refine sim_trap_First _ ?_
  unfold uF
  refine oW st fun c h1 s1=>?_
  refine fy (.iface bN (.pointer (some ⟨c,0,none⟩))) (fun K h=>by kernel_rfl) ?_
  refine cR [1,0] (rest:=[]) (sp_As b c none) s1 rfl fun r h' s2=>?_
  obtain ⟨rfl,s3⟩:=bD.1 s2
  refine cT rfl ?_
  refine bA (some (b,0)) s3 (i:=1) rfl rfl rfl ?_
  unfold mz
  refine dH rfl ?_
  refine bA (some (b,0)) s3 (i:=1) rfl rfl rfl ?_
  exact bg rfl (co (l:=[_]) (bn [1] s3 rfl))
theorem sp_First_nil:Sp Tryz.prog jR [Value.nilIface] eI [] (fun r=>pa_ (r = (none,false)) []):=by
  intro h st
  refine sim_trap_First _ ?_
  unfold uF
  refine oW st fun c h1 s1=>?_
  refine fy (.iface bN (.pointer (some ⟨c,0,none⟩))) (fun K h=>by kernel_rfl) ?_
  refine iU (sp_As_nil _) s1 fun r h' hr s2=>?_
  subst hr
  refine dH rfl ?_
  unfold mz
  exact cT rfl (bg rfl trivial)
theorem sp_Of (n:Int) (hn:n ≠ 0):Sp Tryz.prog kq [.int .i64 n] il [] (fun r=>ex fun b=>pa_ (r = dy b) [trB b ⟨n,-1,⟨0,0,0,0,0⟩,.nilIface⟩]):=by
  intro h st
  refine sim_trap_Of _ ?_
  unfold sh_trap_Of
  refine dH (by simpa using hn) ?_
  refine oW st fun b h1 s1=>?_
  refine fy (dy b) (fun K h=>by kernel_rfl) ?_
  exact ⟨b,bg rfl s1⟩
theorem sp_Of0:Sp Tryz.prog kq [.int .i64 0] il [] (fun r=>pa_ (r = Value.nilIface) []):=by
  intro h st
  refine sim_trap_Of _ ?_
  unfold sh_trap_Of
  exact cT rfl (bg rfl st)
theorem sp_Code (b:Nat) (t:ci):Sp Tryz.prog uk [dy b] bu [(etB ET EF),trB b t] (fun r=>pa_ (r = t.fCode) [(etB ET EF),trB b t]):=by
  intro h st
  refine sim_trap_Code _ ?_
  unfold sh_trap_Code
  refine fy false (en_0 b _) (dH rfl ?_)
  refine ce (i:=0) (sp_First b) rfl st fun r h' hr s2=>?_
  subst hr
  refine cT rfl (cK ?_)
  refine bA t.fCode s2 (i:=1) rfl rfl rfl ?_
  exact bg rfl s2
theorem sp_In (env:Int) (c:ap) (b:Nat) (t:ci):Sp Tryz.prog n_trap_In [.int .i64 env,.agg (ap.C c).toArray,dy b] il [(etB ET EF),trB b t]
    (fun r=>ex fun e=>pa_ (r = dy e) [trB e ⟨t.fCode,env,c,dy b⟩,(etB ET EF),trB b t]):=by
  intro h st
  refine sim_trap_In _ _ _ ?_
  unfold sh_trap_In
  refine fy false (en_0 b _) (dH rfl ?_)
  refine cR [] (rest:=[]) (sp_Code b t) st (List.append_nil _).symm fun r h' s2=>?_
  obtain ⟨rfl,s3⟩:=bD.1 s2
  refine fy ⟨t.fCode,env,c,dy b⟩ (fun K h=>by kernel_rfl) ?_
  refine oW s3 fun e h1 s4=>?_
  refine fy (dy e) (fun K h=>by kernel_rfl) ?_
  exact ⟨e,bg rfl s4⟩
theorem sp_Depth2 (b e:Nat) (t u:ci) (ht:t.fErr = dy e) (hu:u.fErr = Value.nilIface):Sp Tryz.prog wL [dy b] dQ [(etB ET EF),trB b t,trB e u] (fun r=>pa_ (r = 2) [(etB ET EF),trB b t,trB e u]):=by
  intro h st
  refine sim_trap_Depth _ ?_
  unfold sh_trap_Depth
  refine ce (i:=0) (sp_First b) rfl st fun r h' hr s2=>?_
  subst hr
  refine ⟨fun s h=>(s = (0,some (b,0),true)∨s = (1,some (e,0),true)∨s = (2,none,false))∧aO [(etB ET EF),trB b t,trB e u] h,fun s _=>3 - s.1.toNat,⟨.inl rfl,s2⟩,?_⟩
  rintro s h1 ⟨rfl | rfl | rfl,s3⟩
  · unfold mA
    refine cT rfl (cK ?_)
    refine bA t.fErr s3 (i:=1) rfl rfl rfl ?_
    rw [ht]
    refine ce (i:=0) (sp_First e) rfl s3 fun r h' hr s4=>?_
    subst hr
    exact ⟨⟨.inr (.inl rfl),s4⟩,Nat.le_of_ble_eq_true rfl⟩
  · unfold mA
    refine cT rfl (cK ?_)
    refine bA u.fErr s3 (i:=2) rfl rfl rfl ?_
    rw [hu]
    refine iU sp_First_nil s3 fun r h' hr s4=>?_
    subst hr
    exact ⟨⟨.inr (.inr rfl),s4⟩,Nat.le_of_ble_eq_true rfl⟩
  · unfold mA
    exact dH rfl (bg rfl s3)
end Go.Proofs.YtniiiakkdoiaiaaGreatDoor
namespace Go.Proofs.YtniiiakkdoiaiaaGreatDoor
open Go Mb
set_option linter.unusedVariables false
def sh_strconv_Itoa (a0:Int) (K:ByteArray→Hp→Prop):Hp→Prop:=cl Tryz.prog jy [(.int .i64 a0)] dU fun r4=>K r4
set_option maxRecDepth 20000 in
theorem sim_strconv_Itoa (a0:Int) {K:ByteArray→Hp→Prop} {h:Hp} (H:sh_strconv_Itoa a0 K h):Ct Tryz.prog ta #[(.int .i64 a0)] h fun v h'=>∃ r,v = dU r∧K r h':=aA [(.int .i64 a0)] Tryz.func236 rfl rfl rfl fun _=>ag<|ab<|aa (ae rfl) rfl<|ad<|ag<|ab<|aa (ac rfl) rfl<|aj (az H en_237 rfl rfl fun r4 _ H1=>aa (ae rfl) rfl<|ad<|ao<|aw (ay rfl (aD rfl)) ⟨r4,rfl,H1⟩)
end Go.Proofs.YtniiiakkdoiaiaaGreatDoor
namespace Go.Proofs.YtniiiakkdoiaiaaGreatDoor
open Go Mb
set_option linter.unusedVariables false
def mg (a0:Int) (K:ByteArray→Hp→Prop):Hp→Prop:=br (decide (a0 < 10)) ( hpv Tryz.prog (Instr.sliceAt uN (.string str_73df774b) (some (.int .i64 a0)) (some (.int .i64 (IntKind.i64.wrap (a0 + 1)))) none) dU fun (v8:ByteArray)=>K v8) ( hpv Tryz.prog (Instr.sliceAt uN (.string str_e9752c08) (some (.int .i64 (IntKind.i64.wrap (a0 * 2)))) (some (.int .i64 (IntKind.i64.wrap ((IntKind.i64.wrap (a0 * 2)) + 2)))) none) dU fun (v14:ByteArray)=>K v14)
set_option maxRecDepth 20000 in
theorem sH (a0:Int) {K:ByteArray→Hp→Prop} {h:Hp} (H:mg a0 K h):Ct Tryz.prog ja #[(.int .i64 a0)] h fun v h'=>∃ r,v = dU r∧K r h':=aA [(.int .i64 a0)] Tryz.func239 rfl rfl rfl fun _=>ag<|ab<|aa (ae rfl) rfl<|ad<|ag<|ag<|ab<|aa (ac rfl) rfl<|aa (cH rfl rfl) rfl<|ad<|aE rfl H (fun k1 H2=>ag<|ab<|aa (ac rfl) rfl<|aa (ac rfl) rfl<|aa (bK rfl rfl) rfl<|aj (be H2 (ff rfl rfl rfl rfl rfl) rfl fun v8 _ H3=>aa (ae rfl) rfl<|ad<|ao<|aw (ay rfl (aD rfl)) ⟨v8,rfl,H3⟩)) (fun k1 H2=>av<|ag<|ab<|aa (ac rfl) rfl<|aa (v_mul rfl rfl) rfl<|aa (ac rfl) rfl<|aa (v_mul rfl rfl) rfl<|aa (bK rfl rfl) rfl<|aj (be H2 (ff rfl rfl rfl rfl rfl) rfl fun v14 _ H4=>aa (ae rfl) rfl<|ad<|ao<|aw (ay rfl (aD rfl)) ⟨v14,rfl,H4⟩))
def gc (a0:Int) (K:ByteArray→Hp→Prop) (b5:Nat) (s9:Int):Hp→Prop:=cl Tryz.prog ra [(.int .u64 s9)] dQ fun r27=>hpv Tryz.prog (Instr.sliceAt wb (.pointer (some ⟨b5,0,none⟩)) (some (.int .i64 1)) (some (.int .i64 (IntKind.i64.wrap (1 + r27)))) none) R_Suint8 fun (v30:Sl)=>cl Tryz.prog oX [(sv v30),(.int .u64 s9)] R_ fun (_:Unit)=>br (decide (a0 < 0)) ( st (b5,0) [.int .u8 45]<|hpv Tryz.prog (Instr.sliceAt wb (.pointer (some ⟨b5,0,none⟩)) none (some (.int .i64 (IntKind.i64.wrap (1 + r27)))) none) R_Suint8 fun (v38:Sl)=>hpv Tryz.prog (convert 303 9 (sv v38)) dU fun (v39:ByteArray)=>K v39) ( hpv Tryz.prog (Instr.sliceAt wb (.pointer (some ⟨b5,0,none⟩)) (some (.int .i64 1)) (some (.int .i64 (IntKind.i64.wrap (1 + r27)))) none) R_Suint8 fun (v42:Sl)=>hpv Tryz.prog (convert 303 9 (sv v42)) dU fun (v43:ByteArray)=>K v43)
def jL (a0:Int) (a1:Int) (K:ByteArray→Hp→Prop):Hp→Prop:=br (a1 == 10) ( br ((decide (0 ≤ a0)) && (decide (a0 < 100))) ( cl Tryz.prog ja [(.int .i64 a0)] dU fun r19=>K r19) ( nw wb [.int .u8 0,.int .u8 0,.int .u8 0,.int .u8 0,.int .u8 0,.int .u8 0,.int .u8 0,.int .u8 0,.int .u8 0,.int .u8 0,.int .u8 0,.int .u8 0,.int .u8 0,.int .u8 0,.int .u8 0,.int .u8 0,.int .u8 0,.int .u8 0,.int .u8 0,.int .u8 0,.int .u8 0,.int .u8 0,.int .u8 0,.int .u8 0] fun b5=>br (decide (a0 < 0)) ( gc a0 K b5 (IntKind.u64.wrap (0 - (IntKind.u64.wrap a0)))) ( gc a0 K b5 (IntKind.u64.wrap a0)))) ( cl Tryz.prog qH [(sv (⟨none,0,0,none⟩:Sl)),(.int .u64 (IntKind.u64.wrap a0)),(.int .i64 a1),(.bool (decide (a0 < 0))),(.bool false)] R_Suint8_string fun r50=>K r50.2)
set_option maxRecDepth 20000 in
theorem pM (a0:Int) (a1:Int) {K:ByteArray→Hp→Prop} {h:Hp} (H:jL a0 a1 K h):Ct Tryz.prog gA #[(.int .i64 a0),(.int .i64 a1)] h fun v h'=>∃ r,v = dU r∧K r h':=aA [(.int .i64 a0),(.int .i64 a1)] Tryz.func238 rfl rfl rfl fun _=>ag<|ab<|aa (ae rfl) rfl<|ad<|ag<|ag<|ab<|aa (ac rfl) rfl<|aa (bV rfl rfl) rfl<|ad<|aE rfl H (fun k1 H2=>ag<|ag<|ab<|aa (ac rfl) rfl<|aa (v_le rfl rfl) rfl<|aa (ac rfl) rfl<|ak rfl rfl rfl (aB _) (fun g3=>wv (ac rfl)) rfl<|ak rfl rfl rfl (aB _) (fun g4=>wv (cH (aK rfl g4) rfl)) rfl<|aa (bX rfl rfl) rfl<|ad<|aE rfl H2 (fun k5 H6=>ag<|ab<|aa (ac rfl) rfl<|aj (az H6 en_239 rfl rfl fun r19 _ H7=>aa (ae rfl) rfl<|ad<|ao<|aw (ay rfl (aD rfl)) ⟨r19,rfl,H7⟩)) (fun k5 H6=>av<|ag<|ab<|aj (to_alloc zero_300 rfl rfl H6 fun b5 _ H8=>ad<|ag<|ab<|aa (ac rfl) rfl<|aa (dX ⟨_,Tryz.underlying2⟩ Tryz.underlying25 rfl) rfl<|aa (ae rfl) rfl<|ad<|eG (gc a0 K b5) (fun s9=>[(0,(.int .i64 a0)),(5,(.pointer (some ⟨b5,0,none⟩))),(6,(.int .u64 s9))]) (fun s9=>[]) ( ag<|ab<|aa (ac rfl) rfl<|aa (cH rfl rfl) rfl<|ad<|aE rfl H8 (fun k21 H22=>ab<|aa (ac rfl) rfl<|aa (v_neg rfl) rfl<|aa (ae rfl) rfl<|ad<|cO (IntKind.u64.wrap (0 - (IntKind.u64.wrap a0))) H22 (.cons rfl (.cons rfl (.cons rfl (.nil _)))) .slnil) (fun k21 H22=>av<|cO (IntKind.u64.wrap a0) H22 (.cons rfl (.cons rfl (.cons rfl (.nil _)))) .slnil)) (fun s9 _ H10=>ag<|ab<|aa (ac rfl) rfl<|aj (az H10 en_240 rfl rfl fun r27 _ H11=>aa (ae rfl) rfl<|ad<|ag<|ab<|aa (ac rfl) rfl<|aa (bK rfl rfl) rfl<|aj (be H11 (ff rfl rfl rfl rfl rfl) rfl fun v30 _ H12=>aa (ac rfl) rfl<|aj (az H12 en_241 rfl rfl fun r32 _ H13=>ad<|ag<|ag<|ab<|aa (ac rfl) rfl<|aa (cH rfl rfl) rfl<|ad<|aE rfl H13 (fun k14 H15=>ag<|ab<|aa (bL arr_300 rfl rfl (by decide)) rfl<|aj (dz inf_5 rfl rfl rfl rfl rfl H15 fun _ H16=>ad<|ag<|ab<|aa (ac rfl) rfl<|aa (bK rfl rfl) rfl<|aj (be H16 (ff rfl rfl rfl rfl rfl) rfl fun v38 _ H17=>aj (be H17 (x_convert rfl) rfl fun v39 _ H18=>aa (ae rfl) rfl<|ad<|ao<|aw (ay rfl (aD rfl)) ⟨v39,rfl,H18⟩)))) (fun k14 H15=>av<|ag<|ab<|aa (ac rfl) rfl<|aa (bK rfl rfl) rfl<|aj (be H15 (ff rfl rfl rfl rfl rfl) rfl fun v42 _ H19=>aj (be H19 (x_convert rfl) rfl fun v43 _ H20=>aa (ae rfl) rfl<|ad<|ao<|aw (ay rfl (aD rfl)) ⟨v43,rfl,H20⟩)))))))))) (fun k1 H2=>av<|ag<|ab<|aa (ac rfl) rfl<|aa (dX ⟨_,Tryz.underlying2⟩ Tryz.underlying25 rfl) rfl<|aa (ac rfl) rfl<|aa (ac rfl) rfl<|aa (cH rfl rfl) rfl<|aj (az H2 en_242 rfl rfl fun r50 _ H23=>aa (ac rfl) rfl<|aa (aq rfl rfl) rfl<|aa (aq rfl rfl) rfl<|aa (ae rfl) rfl<|aa (ae rfl) rfl<|ad<|ag<|ab<|aa (ac rfl) rfl<|aa (ae rfl) rfl<|ad<|ao<|aw (ay rfl (aD rfl)) ⟨r50.2,rfl,H23⟩))
def mG (a0:Int) (K:ByteArray→Hp→Prop):Hp→Prop:=cl Tryz.prog gA [(.int .i64 a0),(.int .i64 10)] dU fun r4=>K r4
set_option maxRecDepth 20000 in
theorem tI (a0:Int) {K:ByteArray→Hp→Prop} {h:Hp} (H:mG a0 K h):Ct Tryz.prog jy #[(.int .i64 a0)] h fun v h'=>∃ r,v = dU r∧K r h':=aA [(.int .i64 a0)] Tryz.func237 rfl rfl rfl fun _=>ag<|ab<|aa (ae rfl) rfl<|ad<|ag<|ab<|aa (ac rfl) rfl<|aj (az H en_238 rfl rfl fun r4 _ H1=>aa (ae rfl) rfl<|ad<|ao<|aw (ay rfl (aD rfl)) ⟨r4,rfl,H1⟩)
end Go.Proofs.YtniiiakkdoiaiaaGreatDoor
namespace Go.Proofs.YtniiiakkdoiaiaaGreatDoor
open Go Mb
set_option linter.unusedVariables false
def pn (K:Bool→Hp→Prop):Hp→Prop:=cl Tryz.prog kq [(.int .i64 3)] il fun r5=>cl Tryz.prog n_trap_In [(.int .i64 2),(.agg (ap.C (⟨1,2,0,0,0⟩:ap)).toArray),r5] il fun r6=>cl Tryz.prog jR [r6] eI fun r9=>hpv Tryz.prog (do eqGuard .eql 171 (.tmp 12) (.const Value.nilIface) r6 Value.nilIface; binOp .eql 171 r6 Value.nilIface:Sem Value) aG fun (v13:Bool)=>br (v13 || r9.1.isNone) ( K false) ( br r9.2 ( nn r9.1 fun q21=>ld (q21.1,q21.2 + 1) (cI .i64) fun x23=>br (x23 == 2) ( ld (q21.1,q21.2 + 2) ap.C fun x30=>br (ap.eqb x30 (⟨1,2,0,0,0⟩:ap)) ( ld (q21.1,q21.2 + 0) (cI .i64) fun x38=>br (x38 == 3) ( cl Tryz.prog uk [r6] bu fun r43=>br (r43 == 3) ( cl Tryz.prog wL [r6] dQ fun r48=>br (r48 == 2) ( cl Tryz.prog kq [(.int .i64 3)] il fun r53=>cl Tryz.prog nD [r6,r53] aG fun r54=>br r54 ( cl Tryz.prog kq [(.int .i64 4)] il fun r58=>cl Tryz.prog nD [r6,r58] aG fun r59=>br (!r59) ( cln Tryz.prog (callMethod r6 "Error" #[]) dU fun (v64:ByteArray)=>hpv Tryz.prog (do eqGuard .eql 9 (.tmp 64) (.const (.string nT)) (.string v64) (.string nT); binOp .eql 9 (.string v64) (.string nT):Sem Value) aG fun (v65:Bool)=>br v65 ( cl Tryz.prog kq [(.int .i64 0)] il fun r68=>hpv Tryz.prog (do eqGuard .eql 171 (.tmp 68) (.const Value.nilIface) r68 Value.nilIface; binOp .eql 171 r68 Value.nilIface:Sem Value) aG fun (v69:Bool)=>K v69) ( K false)) ( K false)) ( K false)) ( K false)) ( K false)) ( K false)) ( K false)) ( K false)) ( K false))
set_option maxRecDepth 20000 in
theorem wt {K:Bool→Hp→Prop} {h:Hp} (H:pn K h):Ct Tryz.prog lm #[] h fun v h'=>∃ r,v = aG r∧K r h':=aA [] Tryz.func203 rfl rfl rfl fun _=>ag<|ab<|aa (ae rfl) rfl<|ad<|ag<|ab<|aa (bj rfl (mc 1 2)) rfl<|aj (az H xg rfl rfl fun r5 _ H1=>aj (az H1 en_168 rfl rfl fun r6 _ H2=>aa (ae rfl) rfl<|ad<|ag<|ab<|aa (ac rfl) rfl<|aj (az H2 en_202 rfl rfl fun r9 _ H3=>aa (ac rfl) rfl<|aa (aq rfl rfl) rfl<|aa (aq rfl rfl) rfl<|aa (ae rfl) rfl<|aa (ae rfl) rfl<|ad<|ag<|ag<|ab<|aa (ac rfl) rfl<|aj (be H3 (gj rfl rfl) rfl fun v13 _ H4=>aa (ac rfl) rfl<|ak rfl rfl rfl (aX _) (fun g5=>wv (ac rfl)) rfl<|ak rfl rfl rfl (aX _) (fun g6=>wv (ct Tryz.underlying226 (aK rfl g6))) rfl<|aa (dD rfl rfl) rfl<|ad<|aE rfl H4 (fun k7 H8=>ag<|ab<|aa (ae rfl) rfl<|ad<|ao<|aw (ay rfl (aD rfl)) ⟨false,rfl,H8⟩) (fun k7 H8=>av<|ag<|ab<|aa (ac rfl) rfl<|aa (ac rfl) rfl<|ak rfl rfl rfl (aB _) (fun g9=>wv (ac rfl)) rfl<|bO H8 (fun k11 H12=>bJ H12 fun q21 e13 H14=>aF rfl rfl rfl (congrArg Value.bool k11) (aJ (wv (aS (aV (aK rfl k11) (ax e13)))) rfl<|aF rfl rfl rfl (congrArg Value.bool k11) (aJ (wv (am fld_228_1 rfl)) rfl<|aF rfl rfl rfl (congrArg Value.bool k11) (bd H14 bk rfl (fun _=>rfl) rfl fun x23 H15=>aF rfl rfl rfl (congrArg Value.bool k11) (aJ (wv (bV rfl rfl)) rfl<|aa (ba rfl k11 rfl) rfl<|aa (ac rfl) rfl<|ak rfl rfl rfl (aB _) (fun g16=>wv (ac (aV rfl (ax e13)))) rfl<|ak rfl rfl rfl (aB _) (fun g17=>wv (aS (aK rfl g17))) rfl<|ak rfl rfl rfl (aB _) (fun g18=>wv (am fld_228_2 (aK rfl g18))) rfl<|bO H15 (fun k20 H21=>aF rfl rfl rfl (congrArg Value.bool k20) (hH H21 fA (aK rfl k20) (fun _=>rfl) rfl fun x30 H22=>aF rfl rfl rfl (congrArg Value.bool k20) (aJ (wv (bj rfl (mc 1 2))) rfl<|aF rfl rfl rfl (congrArg Value.bool k20) (aJ (wv (v_eqA eqg_27 (eqr_27 9998 _ _) rfl rfl)) rfl<|aa (ba rfl k20 rfl) rfl<|aa (ac rfl) rfl<|ak rfl rfl rfl (aB _) (fun g23=>wv (ac (aV rfl (ax e13)))) rfl<|ak rfl rfl rfl (aB _) (fun g24=>wv (aS (aK rfl g24))) rfl<|ak rfl rfl rfl (aB _) (fun g25=>wv (am vy (aK rfl g25))) rfl<|bO H22 (fun k27 H28=>aF rfl rfl rfl (congrArg Value.bool k27) (bd H28 ow (aK rfl k27) (fun _=>rfl) rfl fun x38 H29=>aF rfl rfl rfl (congrArg Value.bool k27) (aJ (wv (bV rfl rfl)) rfl<|aa (ba rfl k27 rfl) rfl<|aa (ac rfl) rfl<|ak rfl rfl rfl (aB _) (fun g30=>wv (ac rfl)) rfl<|bO H29 (fun k32 H33=>aF rfl rfl rfl (congrArg Value.bool k32) (az H33 en_189 (aT (aK rfl k32) bM) rfl fun r43 _ H34=>aF rfl rfl rfl (congrArg Value.bool k32) (aJ (wv (bV rfl rfl)) rfl<|aa (ba rfl k32 rfl) rfl<|aa (ac rfl) rfl<|ak rfl rfl rfl (aB _) (fun g35=>wv (ac rfl)) rfl<|bO H34 (fun k37 H38=>aF rfl rfl rfl (congrArg Value.bool k37) (az H38 en_208 (aT (aK rfl k37) bM) rfl fun r48 _ H39=>aF rfl rfl rfl (congrArg Value.bool k37) (aJ (wv (bV rfl rfl)) rfl<|aa (ba rfl k37 rfl) rfl<|aa (ac rfl) rfl<|ak rfl rfl rfl (aB _) (fun g40=>wv (ac rfl)) rfl<|bO H39 (fun k42 H43=>aF rfl rfl rfl (congrArg Value.bool k42) (az H43 xg rfl rfl fun r53 _ H44=>aF rfl rfl rfl (congrArg Value.bool k42) (az H44 en_133 (aT (aK rfl k42) (aT rfl bM)) rfl fun r54 _ H45=>aa (ba rfl k42 rfl) rfl<|aa (ac rfl) rfl<|ak rfl rfl rfl (aB _) (fun g46=>wv (ac rfl)) rfl<|bO H45 (fun k48 H49=>aF rfl rfl rfl (congrArg Value.bool k48) (az H49 xg rfl rfl fun r58 _ H50=>aF rfl rfl rfl (congrArg Value.bool k48) (az H50 en_133 (aT (aK rfl k48) (aT rfl bM)) rfl fun r59 _ H51=>aF rfl rfl rfl (congrArg Value.bool k48) (aJ (wv (cu rfl)) rfl<|aa (ba rfl k48 rfl) rfl<|aa (ac rfl) rfl<|ak rfl rfl rfl (aB _) (fun g52=>wv (ac rfl)) rfl<|bO H51 (fun k54 H55=>aF rfl rfl rfl (congrArg Value.bool k54) (fZ H55 (fY (vs:=[]) (aK rfl k54) rfl) rfl fun v64 _ H56=>aF rfl rfl rfl (congrArg Value.bool k54) (be H56 (gj rfl rfl) rfl fun v65 _ H57=>aa (ba rfl k54 rfl) rfl<|aa (ac rfl) rfl<|bO H57 (fun k59 H60=>aF rfl rfl rfl (congrArg Value.bool k59) (az H60 xg rfl rfl fun r68 _ H61=>aF rfl rfl rfl (congrArg Value.bool k59) (be H61 (gj rfl rfl) rfl fun v69 _ H62=>aa (ba rfl k59 rfl) rfl<|aa (ae rfl) rfl<|ad<|ao<|aw (ay rfl (aD rfl)) ⟨v69,rfl,H62⟩))) (fun k59 H60=>ah rfl rfl rfl (aY k59) rfl<|ah rfl rfl rfl (aY k59) rfl<|aa (an rfl k59 rfl) rfl<|aa (ae rfl) rfl<|ad<|ao<|aw (ay rfl (aD rfl)) ⟨false,rfl,H60⟩)))) (fun k54 H55=>ah rfl rfl rfl (aY k54) rfl<|ah rfl rfl rfl (aY k54) rfl<|aa (an rfl k54 rfl) rfl<|aa (ac rfl) rfl<|ah rfl rfl rfl rfl rfl<|ah rfl rfl rfl rfl rfl<|aa (an rfl rfl rfl) rfl<|aa (ae rfl) rfl<|ad<|ao<|aw (ay rfl (aD rfl)) ⟨false,rfl,H55⟩))))) (fun k48 H49=>ah rfl rfl rfl (aY k48) rfl<|ah rfl rfl rfl (aY k48) rfl<|ah rfl rfl rfl (aY k48) rfl<|aa (an rfl k48 rfl) rfl<|aa (ac rfl) rfl<|ah rfl rfl rfl rfl rfl<|ah rfl rfl rfl rfl rfl<|ah rfl rfl rfl rfl rfl<|aa (an rfl rfl rfl) rfl<|aa (ac rfl) rfl<|ah rfl rfl rfl rfl rfl<|ah rfl rfl rfl rfl rfl<|aa (an rfl rfl rfl) rfl<|aa (ae rfl) rfl<|ad<|ao<|aw (ay rfl (aD rfl)) ⟨false,rfl,H49⟩)))) (fun k42 H43=>ah rfl rfl rfl (aY k42) rfl<|ah rfl rfl rfl (aY k42) rfl<|aa (an rfl k42 rfl) rfl<|aa (ac rfl) rfl<|ah rfl rfl rfl rfl rfl<|ah rfl rfl rfl rfl rfl<|ah rfl rfl rfl rfl rfl<|ah rfl rfl rfl rfl rfl<|aa (an rfl rfl rfl) rfl<|aa (ac rfl) rfl<|ah rfl rfl rfl rfl rfl<|ah rfl rfl rfl rfl rfl<|ah rfl rfl rfl rfl rfl<|aa (an rfl rfl rfl) rfl<|aa (ac rfl) rfl<|ah rfl rfl rfl rfl rfl<|ah rfl rfl rfl rfl rfl<|aa (an rfl rfl rfl) rfl<|aa (ae rfl) rfl<|ad<|ao<|aw (ay rfl (aD rfl)) ⟨false,rfl,H43⟩)))) (fun k37 H38=>ah rfl rfl rfl (aY k37) rfl<|ah rfl rfl rfl (aY k37) rfl<|aa (an rfl k37 rfl) rfl<|aa (ac rfl) rfl<|ah rfl rfl rfl rfl rfl<|ah rfl rfl rfl rfl rfl<|ah rfl rfl rfl rfl rfl<|aa (an rfl rfl rfl) rfl<|aa (ac rfl) rfl<|ah rfl rfl rfl rfl rfl<|ah rfl rfl rfl rfl rfl<|ah rfl rfl rfl rfl rfl<|ah rfl rfl rfl rfl rfl<|aa (an rfl rfl rfl) rfl<|aa (ac rfl) rfl<|ah rfl rfl rfl rfl rfl<|ah rfl rfl rfl rfl rfl<|ah rfl rfl rfl rfl rfl<|aa (an rfl rfl rfl) rfl<|aa (ac rfl) rfl<|ah rfl rfl rfl rfl rfl<|ah rfl rfl rfl rfl rfl<|aa (an rfl rfl rfl) rfl<|aa (ae rfl) rfl<|ad<|ao<|aw (ay rfl (aD rfl)) ⟨false,rfl,H38⟩)))) (fun k32 H33=>ah rfl rfl rfl (aY k32) rfl<|ah rfl rfl rfl (aY k32) rfl<|aa (an rfl k32 rfl) rfl<|aa (ac rfl) rfl<|ah rfl rfl rfl rfl rfl<|ah rfl rfl rfl rfl rfl<|ah rfl rfl rfl rfl rfl<|aa (an rfl rfl rfl) rfl<|aa (ac rfl) rfl<|ah rfl rfl rfl rfl rfl<|ah rfl rfl rfl rfl rfl<|ah rfl rfl rfl rfl rfl<|aa (an rfl rfl rfl) rfl<|aa (ac rfl) rfl<|ah rfl rfl rfl rfl rfl<|ah rfl rfl rfl rfl rfl<|ah rfl rfl rfl rfl rfl<|ah rfl rfl rfl rfl rfl<|aa (an rfl rfl rfl) rfl<|aa (ac rfl) rfl<|ah rfl rfl rfl rfl rfl<|ah rfl rfl rfl rfl rfl<|ah rfl rfl rfl rfl rfl<|aa (an rfl rfl rfl) rfl<|aa (ac rfl) rfl<|ah rfl rfl rfl rfl rfl<|ah rfl rfl rfl rfl rfl<|aa (an rfl rfl rfl) rfl<|aa (ae rfl) rfl<|ad<|ao<|aw (ay rfl (aD rfl)) ⟨false,rfl,H33⟩)))) (fun k27 H28=>ah rfl rfl rfl (aY k27) rfl<|ah rfl rfl rfl (aY k27) rfl<|aa (an rfl k27 rfl) rfl<|aa (ac rfl) rfl<|ah rfl rfl rfl rfl rfl<|ah rfl rfl rfl rfl rfl<|ah rfl rfl rfl rfl rfl<|aa (an rfl rfl rfl) rfl<|aa (ac rfl) rfl<|ah rfl rfl rfl rfl rfl<|ah rfl rfl rfl rfl rfl<|ah rfl rfl rfl rfl rfl<|aa (an rfl rfl rfl) rfl<|aa (ac rfl) rfl<|ah rfl rfl rfl rfl rfl<|ah rfl rfl rfl rfl rfl<|ah rfl rfl rfl rfl rfl<|aa (an rfl rfl rfl) rfl<|aa (ac rfl) rfl<|ah rfl rfl rfl rfl rfl<|ah rfl rfl rfl rfl rfl<|ah rfl rfl rfl rfl rfl<|ah rfl rfl rfl rfl rfl<|aa (an rfl rfl rfl) rfl<|aa (ac rfl) rfl<|ah rfl rfl rfl rfl rfl<|ah rfl rfl rfl rfl rfl<|ah rfl rfl rfl rfl rfl<|aa (an rfl rfl rfl) rfl<|aa (ac rfl) rfl<|ah rfl rfl rfl rfl rfl<|ah rfl rfl rfl rfl rfl<|aa (an rfl rfl rfl) rfl<|aa (ae rfl) rfl<|ad<|ao<|aw (ay rfl (aD rfl)) ⟨false,rfl,H28⟩))))) (fun k20 H21=>ah rfl rfl rfl (aY k20) rfl<|ah rfl rfl rfl (aY k20) rfl<|ah rfl rfl rfl (aY k20) rfl<|aa (an rfl k20 rfl) rfl<|aa (ac rfl) rfl<|ah rfl rfl rfl rfl rfl<|ah rfl rfl rfl rfl rfl<|ah rfl rfl rfl rfl rfl<|ah rfl rfl rfl rfl rfl<|ah rfl rfl rfl rfl rfl<|aa (an rfl rfl rfl) rfl<|aa (ac rfl) rfl<|ah rfl rfl rfl rfl rfl<|ah rfl rfl rfl rfl rfl<|ah rfl rfl rfl rfl rfl<|aa (an rfl rfl rfl) rfl<|aa (ac rfl) rfl<|ah rfl rfl rfl rfl rfl<|ah rfl rfl rfl rfl rfl<|ah rfl rfl rfl rfl rfl<|aa (an rfl rfl rfl) rfl<|aa (ac rfl) rfl<|ah rfl rfl rfl rfl rfl<|ah rfl rfl rfl rfl rfl<|ah rfl rfl rfl rfl rfl<|aa (an rfl rfl rfl) rfl<|aa (ac rfl) rfl<|ah rfl rfl rfl rfl rfl<|ah rfl rfl rfl rfl rfl<|ah rfl rfl rfl rfl rfl<|ah rfl rfl rfl rfl rfl<|aa (an rfl rfl rfl) rfl<|aa (ac rfl) rfl<|ah rfl rfl rfl rfl rfl<|ah rfl rfl rfl rfl rfl<|ah rfl rfl rfl rfl rfl<|aa (an rfl rfl rfl) rfl<|aa (ac rfl) rfl<|ah rfl rfl rfl rfl rfl<|ah rfl rfl rfl rfl rfl<|aa (an rfl rfl rfl) rfl<|aa (ae rfl) rfl<|ad<|ao<|aw (ay rfl (aD rfl)) ⟨false,rfl,H21⟩)))))) (fun k11 H12=>ah rfl rfl rfl (aY k11) rfl<|ah rfl rfl rfl (aY k11) rfl<|ah rfl rfl rfl (aY k11) rfl<|ah rfl rfl rfl (aY k11) rfl<|aa (an rfl k11 rfl) rfl<|aa (ac rfl) rfl<|ah rfl rfl rfl rfl rfl<|ah rfl rfl rfl rfl rfl<|ah rfl rfl rfl rfl rfl<|ah rfl rfl rfl rfl rfl<|ah rfl rfl rfl rfl rfl<|ah rfl rfl rfl rfl rfl<|aa (an rfl rfl rfl) rfl<|aa (ac rfl) rfl<|ah rfl rfl rfl rfl rfl<|ah rfl rfl rfl rfl rfl<|ah rfl rfl rfl rfl rfl<|ah rfl rfl rfl rfl rfl<|ah rfl rfl rfl rfl rfl<|aa (an rfl rfl rfl) rfl<|aa (ac rfl) rfl<|ah rfl rfl rfl rfl rfl<|ah rfl rfl rfl rfl rfl<|ah rfl rfl rfl rfl rfl<|aa (an rfl rfl rfl) rfl<|aa (ac rfl) rfl<|ah rfl rfl rfl rfl rfl<|ah rfl rfl rfl rfl rfl<|ah rfl rfl rfl rfl rfl<|aa (an rfl rfl rfl) rfl<|aa (ac rfl) rfl<|ah rfl rfl rfl rfl rfl<|ah rfl rfl rfl rfl rfl<|ah rfl rfl rfl rfl rfl<|aa (an rfl rfl rfl) rfl<|aa (ac rfl) rfl<|ah rfl rfl rfl rfl rfl<|ah rfl rfl rfl rfl rfl<|ah rfl rfl rfl rfl rfl<|ah rfl rfl rfl rfl rfl<|aa (an rfl rfl rfl) rfl<|aa (ac rfl) rfl<|ah rfl rfl rfl rfl rfl<|ah rfl rfl rfl rfl rfl<|ah rfl rfl rfl rfl rfl<|aa (an rfl rfl rfl) rfl<|aa (ac rfl) rfl<|ah rfl rfl rfl rfl rfl<|ah rfl rfl rfl rfl rfl<|aa (an rfl rfl rfl) rfl<|aa (ae rfl) rfl<|ad<|ao<|aw (ay rfl (aD rfl)) ⟨false,rfl,H12⟩))))))
def pq (K:Bool→Hp→Prop):Hp→Prop:=cl Tryz.prog lm [] aG fun r1=>K r1
set_option maxRecDepth 20000 in
theorem wu {K:Bool→Hp→Prop} {h:Hp} (H:pq K h):Ct Tryz.prog lp #[] h fun v h'=>∃ r,v = aG r∧K r h':=aA [] Tryz.func194 rfl rfl rfl fun _=>ag<|ab<|aa (ae rfl) rfl<|ad<|ag<|ab<|aj (az H en_203 rfl rfl fun r1 _ H1=>aa (ae rfl) rfl<|ad<|ao<|aw (ay rfl (aD rfl)) ⟨r1,rfl,H1⟩)
end Go.Proofs.YtniiiakkdoiaiaaGreatDoor
namespace Go.Proofs.YtniiiakkdoiaiaaGreatDoor
open Go Mb
variable {ET:Nat} {EF:Nat × Nat}
abbrev s3_:ByteArray:=⟨#[51]⟩
theorem sp_small3:Sp Tryz.prog ja [.int .i64 3] dU [] (fun r=>pa_ (r = s3_) []):=by
  intro h st
  refine sH _ ?_
  unfold mg
  exact cT rfl (fy s3_ (fun K h=>by kernel_rfl) (bg rfl st))
theorem sp_FormatInt3:Sp Tryz.prog gA [.int .i64 3,.int .i64 10] dU [] (fun r=>pa_ (r = s3_) []):=by
  intro h st
  refine pM _ _ ?_
  unfold jL
  refine cT rfl (cT rfl (iU sp_small3 st fun r h' hr s2=>?_))
  exact bg hr s2
theorem sp_Itoa3':Sp Tryz.prog jy [.int .i64 3] dU [] (fun r=>pa_ (r = s3_) []):=by
  intro h st
  refine tI _ ?_
  unfold mG
  exact iU sp_FormatInt3 st fun r h' hr s2=>bg hr s2
theorem sp_Itoa3:Sp Tryz.prog ta [.int .i64 3] dU [] (fun r=>pa_ (r = s3_) []):=by
  intro h st
  refine sim_strconv_Itoa _ ?_
  unfold sh_strconv_Itoa
  exact iU sp_Itoa3' st fun r h' hr s2=>bg hr s2
abbrev t3_:ByteArray:=⟨#[116,114,97,112,32,51]⟩
theorem sp_Error1 (b:Nat) (t:ci) (hc:t.fCode = 3) (ht:t.fErr = Value.nilIface):Sp Tryz.prog iJ [pv (some (b,0))] dU [trB b t] (fun r=>pa_ (r = t3_) [trB b t]):=by
  intro h st
  refine rj _ ?_
  unfold mV
  refine dH rfl (cK ?_)
  refine bA t.fCode st (i:=0) rfl rfl rfl ?_
  rw [hc]
  refine iU sp_Itoa3 st fun r h' hr s2=>?_
  subst hr
  refine fy t3_ (fun K h=>by kernel_rfl) ?_
  refine bA t.fErr s2 (i:=0) rfl rfl rfl ?_
  rw [ht]
  refine fy false (fun K h=>by kernel_rfl) (dH rfl ?_)
  exact bg rfl s2
theorem sp_Error2 (b e:Nat) (t u:ci) (hc:t.fCode = 3) (ht:t.fErr = dy e) (hd:u.fCode = 3) (hu:u.fErr = Value.nilIface):Sp Tryz.prog iJ [pv (some (b,0))] dU [trB b t,trB e u] (fun r=>pa_ (r = nT) [trB b t,trB e u]):=by
  intro h st
  refine rj _ ?_
  unfold mV
  refine dH rfl (cK ?_)
  refine bA t.fCode st (i:=0) rfl rfl rfl ?_
  rw [hc]
  refine iU sp_Itoa3 st fun r h' hr s2=>?_
  subst hr
  refine fy t3_ (fun K h=>by kernel_rfl) ?_
  refine bA t.fErr s2 (i:=0) rfl rfl rfl ?_
  rw [ht]
  refine fy true (fun K h=>by kernel_rfl) (cT rfl ?_)
  refine bA t.fErr s2 (i:=0) rfl rfl rfl ?_
  rw [ht]
  refine cln_en (f:=iJ) (vs:=[pv (some (e,0))]) (fun K h=>by kernel_rfl) ?_
  refine ce (i:=1) (sp_Error1 e u hd hu) rfl s2 fun r h' hr s3=>?_
  subst hr
  refine fy ⟨#[58,32,116,114,97,112,32,51]⟩ (fun K h=>by kernel_rfl) ?_
  refine fy nT (fun K h=>by kernel_rfl) ?_
  exact bg rfl s3
theorem star_ne {b d:Nat} {T T':TypeId} {c c':List Value} {l:List As} {h:Hp} (s:aO (blk b T c::blk d T' c'::l) h):b ≠ d:=by
  obtain ⟨h1,h2,dj,e,a,h3,h4,dj2,e2,a2,_⟩:=s
  rintro rfl
  have h1b:h1 b = some _:=a
  have h3b:h3 b = some _:=a2
  rcases dj b with x | x
  · rw [h1b] at x; cases x
  · rw [e2,un_left h3b] at x; cases x
theorem sp_Trap_Is (b d:Nat) (t w:ci):Sp Tryz.prog sY [pv (some (b,0)),dy d] aG [trB b t,trB d w] (fun r=>pa_ (r = (t.fCode == w.fCode)) [trB b t,trB d w]):=by
  intro h st
  refine sim_trap_Trap_Is _ _ ?_
  unfold sh_trap_Trap_Is
  refine fy (some (d,0),true) (fun K h=>by kernel_rfl) (cT rfl (cT rfl (cT rfl (cK (cK ?_)))))
  refine bA t.fCode st (i:=0) rfl rfl rfl ?_
  refine bA w.fCode st (i:=1) rfl rfl rfl ?_
  exact bg rfl st
theorem sp_Unwrap (b:Nat) (t:ci):Sp Tryz.prog mY [pv (some (b,0))] encV [trB b t] (fun r=>pa_ (r = t.fErr) [trB b t]):=by
  intro h st
  refine sim_trap_Trap_Unwrap _ ?_
  unfold rm
  refine dH rfl (cK ?_)
  refine bA t.fErr st (i:=0) rfl rfl rfl ?_
  exact bg rfl st
theorem eq_traps {K:Bool→Hp→Prop} {a b n m:Nat} {t u:ci} {l:List As} {h:Hp} (s:aO (trB a t::trB b u::l) h) (k:K false h):hpv Tryz.prog (do eqGuard .eql 171 (.tmp n) (.tmp m) (dy a) (dy b); binOp .eql 171 (dy a) (dy b):Sem Value) aG K h:=by
  obtain ⟨g1,a1,sub1⟩:=dZ (l:=trB a t::trB b u::l) (A:=trB a t) (i:=0) (by rfl) s
  obtain ⟨g2,a2,sub2⟩:=dZ (l:=trB a t::trB b u::l) (A:=trB b u) (i:=1) (by rfl) s
  have q1:h a = some (.cells (ci.C t).toArray ns (0,0)):=sub1 _ _ a1
  have q2:h b = some (.cells (ci.C u).toArray ns (0,0)):=sub2 _ _ a2
  have hne:=star_ne s
  have e:(a == b) = false:=by simpa using hne
  constructor
  rw [y6,cX]
  refine x25 _ _ q1 q2 ?_
  rw [e]
  exact ⟨false,rfl,k⟩
theorem is_step {b d:Nat} {t w:ci} {l:List As} {h:Hp} {K:Bool→Hp→Prop} {Rec:Value→Hp→Prop} (st:aO (trB b t::trB d w::l) h)
    (h1:t.fCode = w.fCode→∀ h',aO (trB b t::trB d w::l) h'→K true h') (h0:t.fCode ≠ w.fCode→t.fErr = .nilIface→∀ h',aO (trB b t::trB d w::l) h'→K false h')
    (h2:t.fCode ≠ w.fCode→∀ e,t.fErr = dy e→∀ h',aO (trB b t::trB d w::l) h'→Rec (dy e) h') (hok:t.fErr = .nilIface∨∃ e,t.fErr = dy e):rV (dy d) true K Rec (dy b) h:=by
  unfold rV
  refine cT rfl (eq_traps st (dH rfl ?_))
  refine fy (dy b,true) (fun K h=>by kernel_rfl) (cT rfl ?_)
  refine cln_en (f:=sY) (vs:=[pv (some (b,0)),dy d]) (fun K h=>by kernel_rfl) ?_
  refine cR [] (rest:=l) (sp_Trap_Is b d t w) st rfl fun r h' s2=>?_
  obtain ⟨rfl,s3⟩:=bD.1 s2
  by_cases e:t.fCode = w.fCode
  · exact cT (by simpa using e) (h1 e _ s3)
  · refine dH (by simpa using e) ?_
    unfold rW
    refine fy (dy b,true) (fun K h=>by kernel_rfl) (cT rfl ?_)
    refine cln_en (f:=mY) (vs:=[pv (some (b,0))]) (fun K h=>by kernel_rfl) ?_
    refine ce (i:=0) (sp_Unwrap b t) rfl s3 fun r h' hr s4=>?_
    subst hr
    rcases hok with hn | ⟨x,hx⟩
    · rw [hn]
      refine fy true (en_00 _) (cT rfl (h0 e hn _ ?_))
      simpa using s4
    · rw [hx]
      refine fy false (en_0 x _) (dH rfl (h2 e x hx _ ?_))
      simpa using s4
theorem sp_is1 (b d:Nat) (t w:ci) (hc:t.fCode = w.fCode) (hok:t.fErr = .nilIface∨∃ e,t.fErr = dy e):Sp Tryz.prog nC [dy b,dy d,.bool true] aG [trB b t,trB d w] (fun r=>pa_ (r = true) [trB b t,trB d w]):=by
  intro h st
  refine sim_errors_is _ _ _ ?_
  unfold wD
  refine ⟨fun s h=>s = dy b∧aO [trB b t,trB d w] h,fun _ _=>0,⟨rfl,st⟩,?_⟩
  rintro _ h1 ⟨rfl,s1⟩
  exact is_step s1 (fun _ h' s2=>bg rfl s2) (fun e=>absurd hc e) (fun e=>absurd hc e) hok
theorem sp_is2 (b e d:Nat) (t u w:ci) (ht:t.fErr = dy e) (hu:u.fErr = .nilIface) (hc:t.fCode ≠ w.fCode) (hd:u.fCode ≠ w.fCode) :
    Sp Tryz.prog nC [dy b,dy d,.bool true] aG [trB b t,trB e u,trB d w] (fun r=>pa_ (r = false) [trB b t,trB e u,trB d w]):=by
  intro h st
  refine sim_errors_is _ _ _ ?_
  unfold wD
  refine ⟨fun s h=>(s = dy b∨s = dy e)∧aO [trB b t,trB e u,trB d w] h,fun s _=>match s with | .iface _ (.pointer (some p))=>if p.block = b then 1 else 0 | _=>0,⟨.inl rfl,st⟩,?_⟩
  have hne:e ≠ b:=fun h=>(star_ne st) h.symm
  rintro _ h1 ⟨rfl | rfl,s1⟩
  · refine is_step (l:=[trB e u]) (bn [0,1] s1 rfl) (fun x=>absurd x hc) (fun _ x=>by rw [ht] at x; cases x) (fun _ x hx h' s2=>?_) (.inr ⟨e,ht⟩)
    rw [ht] at hx
    rw [← hx]
    exact ⟨⟨.inr rfl,bn [0,1] s2 rfl⟩,by show (if e = b then 1 else 0) < (if b = b then 1 else 0); rw [if_pos rfl,if_neg hne]; exact Nat.one_pos⟩
  · refine is_step (l:=[trB b t]) (bn [1,1] s1 rfl) (fun x=>absurd x hd) (fun _ _ h' s2=>bg rfl (bn [2,0] s2 rfl)) (fun _ x hx=>by rw [hu] at hx; cases hx) (.inl hu)
theorem sp_Is1 (b d:Nat) (t w:ci) (hc:t.fCode = w.fCode) (hok:t.fErr = .nilIface∨∃ e,t.fErr = dy e):Sp Tryz.prog nD [dy b,dy d] aG [trB b t,trB d w] (fun r=>pa_ (r = true) [trB b t,trB d w]):=by
  intro h st
  refine sim_errors_Is _ _ ?_
  unfold wE
  refine fy false (en_0 b _) (cT rfl (fy false (en_0 d _) (dH rfl ?_)))
  refine tA (rtV bp) (fun K h=>x7 d K h) ?_
  refine tA true (fun K h=>x13 K h) ?_
  refine cR [] (rest:=[]) (sp_is1 b d t w hc hok) st rfl fun r h' s2=>?_
  obtain ⟨rfl,s3⟩:=bD.1 s2
  exact bg rfl s3
theorem sp_Is2 (b e d:Nat) (t u w:ci) (ht:t.fErr = dy e) (hu:u.fErr = .nilIface) (hc:t.fCode ≠ w.fCode) (hd:u.fCode ≠ w.fCode) :
    Sp Tryz.prog nD [dy b,dy d] aG [trB b t,trB e u,trB d w] (fun r=>pa_ (r = false) [trB b t,trB e u,trB d w]):=by
  intro h st
  refine sim_errors_Is _ _ ?_
  unfold wE
  refine fy false (en_0 b _) (cT rfl (fy false (en_0 d _) (dH rfl ?_)))
  refine tA (rtV bp) (fun K h=>x7 d K h) ?_
  refine tA true (fun K h=>x13 K h) ?_
  refine cR [] (rest:=[]) (sp_is2 b e d t u w ht hu hc hd) st rfl fun r h' s2=>?_
  obtain ⟨rfl,s3⟩:=bD.1 s2
  exact bg rfl s3
theorem ut {α:Type} {A:α→As} {l:List As} {h:Hp} (s:aO (ex A::l) h):∃ x,aO (A x::l) h:=by
  obtain ⟨h1,h2,d,e,⟨x,a⟩,s2⟩:=s
  exact ⟨x,h1,h2,d,e,a,s2⟩
abbrev tr3:ci:=⟨3,-1,⟨0,0,0,0,0⟩,.nilIface⟩
abbrev tr4:ci:=⟨4,-1,⟨0,0,0,0,0⟩,.nilIface⟩
abbrev tr32 (e:Nat):ci:=⟨3,2,⟨1,2,0,0,0⟩,dy e⟩
theorem sp_begun1:Sp Tryz.prog lm [] aG [(etB ET EF)] (fun r=>pa_ (r = true) [(etB ET EF)]):=by
  intro h st
  refine wt ?_
  unfold pn
  refine cR [] (rest:=[(etB ET EF)]) (sp_Of 3 (by decide)) st rfl fun r h1 s1=>?_
  obtain ⟨e,x1⟩:=ut s1
  obtain ⟨rfl,y1⟩:=bD.1 x1
  refine cR [1,0] (rest:=[]) (sp_In 2 ⟨1,2,0,0,0⟩ e tr3) y1 rfl fun r h2 s2=>?_
  obtain ⟨b,x2⟩:=ut s2
  obtain ⟨rfl,y2⟩:=bD.1 x2
  refine ce (i:=1) (sp_First b) rfl y2 fun r h3 hr s3=>?_
  subst hr
  refine fy false (en_0 b _) (dH rfl (cT rfl (cK ?_)))
  refine bA 2 s3 (i:=0) rfl rfl rfl (cT rfl ?_)
  refine ld_s ⟨1,2,0,0,0⟩ s3 (i:=0) rfl (fun j v hj=>?_) (cT rfl ?_)
  · rcases j with _ | _ | _ | _ | _ | j <;> first | exact hj | (simp [ap.C] at hj)
  refine bA 3 s3 (i:=0) rfl rfl rfl (cT rfl ?_)
  refine cR [1,0] (rest:=[_]) (sp_Code b (tr32 e)) s3 rfl fun r h4 s4=>?_
  obtain ⟨rfl,y4⟩:=bD.1 s4
  refine cT rfl ?_
  refine cR [] (rest:=[]) (sp_Depth2 b e (tr32 e) tr3 rfl rfl) y4 rfl fun r h5 s5=>?_
  obtain ⟨rfl,y5⟩:=bD.1 s5
  refine cT rfl ?_
  refine cR [] (rest:=[_,_,_]) (sp_Of 3 (by decide)) y5 rfl fun r h6 s6=>?_
  obtain ⟨d,x6⟩:=ut s6
  obtain ⟨rfl,y6⟩:=bD.1 x6
  refine cR [2,0] (rest:=[_,_]) (sp_Is1 b d (tr32 e) tr3 rfl (.inr ⟨e,rfl⟩)) y6 rfl fun r h7 s7=>?_
  obtain ⟨rfl,y7⟩:=bD.1 s7
  refine cT rfl ?_
  refine cR [] (rest:=[_,_,_,_]) (sp_Of 4 (by decide)) y7 rfl fun r h8 s8=>?_
  obtain ⟨f,x8⟩:=ut s8
  obtain ⟨rfl,y8⟩:=bD.1 x8
  refine cR [1,3,0] (rest:=[_,_]) (sp_Is2 b e f (tr32 e) tr3 tr4 rfl rfl (show (3:Int) ≠ 4 by decide) (show (3:Int) ≠ 4 by decide)) y8 rfl fun r h9 s9=>?_
  obtain ⟨rfl,y9⟩:=bD.1 s9
  refine cT rfl ?_
  refine cln_en (f:=iJ) (vs:=[pv (some (b,0))]) (fun K h=>by kernel_rfl) ?_
  refine cR [] (rest:=[_,_,_]) (sp_Error2 b e (tr32 e) tr3 rfl rfl rfl rfl) y9 rfl fun r h10 s10=>?_
  obtain ⟨rfl,y10⟩:=bD.1 s10
  refine fy true (fun K h=>by kernel_rfl) (cT rfl ?_)
  refine iU sp_Of0 y10 fun r h11 hr s11=>?_
  subst hr
  refine fy true (en_00 _) ?_
  exact bg rfl (co (l:=[_,_,_,_]) s11)
end Go.Proofs.YtniiiakkdoiaiaaGreatDoor
namespace Go.Proofs.YtniiiakkdoiaiaaGreatDoor
open Go Mb
set_option linter.unusedVariables false
def sh_cell_New (a0:Int) (K:Ptr→Hp→Prop):Hp→Prop:=nw qr (nO.C (⟨a0,0⟩:nO)) fun b5=>K (some (b5,0))
set_option maxRecDepth 20000 in
theorem sim_cell_New (a0:Int) {K:Ptr→Hp→Prop} {h:Hp} (H:sh_cell_New a0 K h):Ct Tryz.prog th #[(.int .u64 a0)] h fun v h'=>∃ r,v = oU r∧K r h':=aA [(.int .u64 a0)] Tryz.func190 rfl rfl rfl fun _=>ag<|ab<|aa (ae rfl) rfl<|ad<|ag<|ab<|aa (ac rfl) rfl<|aa (bj rfl (build_258_0 a0)) rfl<|aj (hO rfl rfl rfl H fun b5 _ H1=>aa (ae rfl) rfl<|ad<|ao<|aw (ay rfl (aD rfl)) ⟨(some (b5,0)),rfl,H1⟩)
def sh_cell_Cell_Up (a0:Ptr) (a1:Int) (K:(Int × Bool)→Hp→Prop):Hp→Prop:=br a0.isNone ( K (0,false)) ( nn a0 fun q9=>ld (q9.1,q9.2 + 1) (cI .i64) fun x11=>st (q9.1,q9.2 + 1) [.int .i64 (IntKind.i64.wrap (x11 + 1))]<|ld (q9.1,q9.2 + 0) (cI .u64) fun x18=>br (decide (x18 ≥ a1)) ( ld (q9.1,q9.2 + 0) (cI .u64) fun x24=>K (x24,false)) ( ld (q9.1,q9.2 + 0) (cI .u64) fun x28=>st (q9.1,q9.2 + 0) [.int .u64 (IntKind.u64.wrap (x28 + 1))]<|ld (q9.1,q9.2 + 0) (cI .u64) fun x35=>K (x35,true)))
set_option maxRecDepth 20000 in
theorem sim_cell_Cell_Up (a0:Ptr) (a1:Int) {K:(Int × Bool)→Hp→Prop} {h:Hp} (H:sh_cell_Cell_Up a0 a1 K h):Ct Tryz.prog oL #[(pv a0),(.int .u64 a1)] h fun v h'=>∃ r,v = bT r∧K r h':=aA [(pv a0),(.int .u64 a1)] Tryz.func192 rfl rfl rfl fun _=>ag<|ab<|aa (ae rfl) rfl<|aa (ae rfl) rfl<|ad<|ag<|ag<|ab<|aa (ac rfl) rfl<|aa (ct Tryz.underlying239 rfl) rfl<|ad<|aE rfl H (fun k1 H2=>ag<|ab<|aa (ae rfl) rfl<|aa (ae rfl) rfl<|ad<|ao<|aw (bW rfl (aD rfl) (aD rfl)) ⟨(0,false),rfl,H2⟩) (fun k1 H2=>av<|ag<|ab<|aa (ac rfl) rfl<|bJ H2 fun q9 e3 H4=>aa (aS (aV rfl (ax e3))) rfl<|aa (am sk rfl) rfl<|aj (bd H4 bk rfl (fun _=>rfl) rfl fun x11 H5=>aa (bK rfl rfl) rfl<|aa (aS (aV rfl (ax e3))) rfl<|aa (am sk rfl) rfl<|aj (dz pA rfl rfl rfl rfl rfl H5 fun _ H6=>ad<|ag<|ag<|ab<|aa (ac (aV rfl (ax e3))) rfl<|aa (aS rfl) rfl<|aa (am nJ rfl) rfl<|aj (bd H6 cD rfl (fun _=>rfl) rfl fun x18 H7=>aa (ac rfl) rfl<|aa (jH rfl rfl) rfl<|ad<|aE rfl H7 (fun k8 H9=>ag<|ab<|aa (ac (aV rfl (ax e3))) rfl<|aa (aS rfl) rfl<|aa (am nJ rfl) rfl<|aj (bd H9 cD rfl (fun _=>rfl) rfl fun x24 H10=>aa (ae rfl) rfl<|aa (ae rfl) rfl<|ad<|ao<|aw (bW rfl (aD rfl) (aD rfl)) ⟨(x24,false),rfl,H10⟩)) (fun k8 H9=>av<|ag<|ab<|aa (ac (aV rfl (ax e3))) rfl<|aa (aS rfl) rfl<|aa (am nJ rfl) rfl<|aj (bd H9 cD rfl (fun _=>rfl) rfl fun x28 H11=>aa (bK rfl rfl) rfl<|aa (aS rfl) rfl<|aa (am nJ rfl) rfl<|aj (dz inf_25 rfl rfl rfl rfl rfl H11 fun _ H12=>ad<|ag<|ab<|aa (ac (aV rfl (ax e3))) rfl<|aa (aS rfl) rfl<|aa (am nJ rfl) rfl<|aj (bd H12 cD rfl (fun _=>rfl) rfl fun x35 H13=>aa (ae rfl) rfl<|aa (ae rfl) rfl<|ad<|ao<|aw (bW rfl (aD rfl) (aD rfl)) ⟨(x35,true),rfl,H13⟩))))))))
def uc (a0:Ptr) (K:Int→Hp→Prop):Hp→Prop:=br a0.isNone ( K 0) ( nn a0 fun q6=>ld (q6.1,q6.2 + 1) (cI .i64) fun x8=>st (q6.1,q6.2 + 1) [.int .i64 (IntKind.i64.wrap (x8 + 1))]<|ld (q6.1,q6.2 + 0) (cI .u64) fun x15=>K x15)
set_option maxRecDepth 20000 in
theorem sim_cell_Cell_Load (a0:Ptr) {K:Int→Hp→Prop} {h:Hp} (H:uc a0 K h):Ct Tryz.prog lV #[(pv a0)] h fun v h'=>∃ r,v = gJ r∧K r h':=aA [(pv a0)] Tryz.func204 rfl rfl rfl fun _=>ag<|ab<|aa (ae rfl) rfl<|ad<|ag<|ag<|ab<|aa (ac rfl) rfl<|aa (ct Tryz.underlying239 rfl) rfl<|ad<|aE rfl H (fun k1 H2=>ag<|ab<|aa (ae rfl) rfl<|ad<|ao<|aw (ay rfl (aD rfl)) ⟨0,rfl,H2⟩) (fun k1 H2=>av<|ag<|ab<|aa (ac rfl) rfl<|bJ H2 fun q6 e3 H4=>aa (aS (aV rfl (ax e3))) rfl<|aa (am sk rfl) rfl<|aj (bd H4 bk rfl (fun _=>rfl) rfl fun x8 H5=>aa (bK rfl rfl) rfl<|aa (aS (aV rfl (ax e3))) rfl<|aa (am sk rfl) rfl<|aj (dz pA rfl rfl rfl rfl rfl H5 fun _ H6=>ad<|ag<|ab<|aa (ac (aV rfl (ax e3))) rfl<|aa (aS rfl) rfl<|aa (am nJ rfl) rfl<|aj (bd H6 cD rfl (fun _=>rfl) rfl fun x15 H7=>aa (ae rfl) rfl<|ad<|ao<|aw (ay rfl (aD rfl)) ⟨x15,rfl,H7⟩))))
def vo (a0:Ptr) (a1:Int) (a2:Int) (K:Bool→Hp→Prop):Hp→Prop:=br a0.isNone ( K false) ( nn a0 fun q10=>ld (q10.1,q10.2 + 1) (cI .i64) fun x12=>st (q10.1,q10.2 + 1) [.int .i64 (IntKind.i64.wrap (x12 + 1))]<|ld (q10.1,q10.2 + 0) (cI .u64) fun x19=>br (x19 != a1) ( K false) ( st (q10.1,q10.2 + 0) [.int .u64 a2]<|K true))
set_option maxRecDepth 20000 in
theorem sim_cell_Cell_Cas (a0:Ptr) (a1:Int) (a2:Int) {K:Bool→Hp→Prop} {h:Hp} (H:vo a0 a1 a2 K h):Ct Tryz.prog rc #[(pv a0),(.int .u64 a1),(.int .u64 a2)] h fun v h'=>∃ r,v = aG r∧K r h':=aA [(pv a0),(.int .u64 a1),(.int .u64 a2)] Tryz.func205 rfl rfl rfl fun _=>ag<|ab<|aa (ae rfl) rfl<|ad<|ag<|ag<|ab<|aa (ac rfl) rfl<|aa (ct Tryz.underlying239 rfl) rfl<|ad<|aE rfl H (fun k1 H2=>ag<|ab<|aa (ae rfl) rfl<|ad<|ao<|aw (ay rfl (aD rfl)) ⟨false,rfl,H2⟩) (fun k1 H2=>av<|ag<|ab<|aa (ac rfl) rfl<|bJ H2 fun q10 e3 H4=>aa (aS (aV rfl (ax e3))) rfl<|aa (am sk rfl) rfl<|aj (bd H4 bk rfl (fun _=>rfl) rfl fun x12 H5=>aa (bK rfl rfl) rfl<|aa (aS (aV rfl (ax e3))) rfl<|aa (am sk rfl) rfl<|aj (dz pA rfl rfl rfl rfl rfl H5 fun _ H6=>ad<|ag<|ag<|ab<|aa (ac (aV rfl (ax e3))) rfl<|aa (aS rfl) rfl<|aa (am nJ rfl) rfl<|aj (bd H6 cD rfl (fun _=>rfl) rfl fun x19 H7=>aa (ac rfl) rfl<|aa (pC rfl rfl) rfl<|ad<|aE rfl H7 (fun k8 H9=>ag<|ab<|aa (ae rfl) rfl<|ad<|ao<|aw (ay rfl (aD rfl)) ⟨false,rfl,H9⟩) (fun k8 H9=>av<|ag<|ab<|aa (ac (aV rfl (ax e3))) rfl<|aa (ac rfl) rfl<|aa (aS rfl) rfl<|aa (am nJ rfl) rfl<|aj (dz inf_25 rfl rfl rfl rfl rfl H9 fun _ H10=>ad<|ag<|ab<|aa (ae rfl) rfl<|ad<|ao<|aw (ay rfl (aD rfl)) ⟨true,rfl,H10⟩))))))
end Go.Proofs.YtniiiakkdoiaiaaGreatDoor
namespace Go.Proofs.YtniiiakkdoiaiaaGreatDoor
open Go Mb
set_option linter.unusedVariables false
def sh_ticket_New (K:Ptr→Hp→Prop):Hp→Prop:=cl Tryz.prog th [(.int .u64 0)] oU fun r1=>cl Tryz.prog th [(.int .u64 0)] oU fun r2=>nw mC (kw.C (⟨r1,r2⟩:kw)) fun b4=>K (some (b4,0))
set_option maxRecDepth 20000 in
theorem sim_ticket_New {K:Ptr→Hp→Prop} {h:Hp} (H:sh_ticket_New K h):Ct Tryz.prog wM #[] h fun v h'=>∃ r,v = tG r∧K r h':=aA [] Tryz.func191 rfl rfl rfl fun _=>ag<|ab<|aa (ae rfl) rfl<|ad<|ag<|ab<|aj (az H en_190 rfl rfl fun r1 _ H1=>aj (az H1 en_190 rfl rfl fun r2 _ H2=>aa (bj rfl (build_260_0_1 r1 r2)) rfl<|aj (hO rfl rfl rfl H2 fun b4 _ H3=>aa (ae rfl) rfl<|ad<|ao<|aw (ay rfl (aD rfl)) ⟨(some (b4,0)),rfl,H3⟩)))
def rp (a0:Ptr) (K:Int→Hp→Prop):Hp→Prop:=br a0.isNone ( K 0) ( nn a0 fun q9=>ld (q9.1,q9.2 + 0) cP fun x11=>cl Tryz.prog oL [(pv x11),(.int .u64 18446744073709551615)] bT fun r12=>K (IntKind.u64.wrap (r12.1 - 1)))
set_option maxRecDepth 20000 in
theorem sim_ticket_Lock_Draw (a0:Ptr) {K:Int→Hp→Prop} {h:Hp} (H:rp a0 K h):Ct Tryz.prog na #[(pv a0)] h fun v h'=>∃ r,v = gJ r∧K r h':=aA [(pv a0)] Tryz.func193 rfl rfl rfl fun _=>ag<|ab<|aa (ae rfl) rfl<|ad<|ag<|ag<|ab<|aa (ac rfl) rfl<|aa (ct Tryz.underlying241 rfl) rfl<|ad<|aE rfl H (fun k1 H2=>ag<|ab<|aa (ae rfl) rfl<|ad<|ao<|aw (ay rfl (aD rfl)) ⟨0,rfl,H2⟩) (fun k1 H2=>av<|ag<|ab<|aa (ac rfl) rfl<|bJ H2 fun q9 e3 H4=>aa (aS (aV rfl (ax e3))) rfl<|aa (am fld_260_0 rfl) rfl<|aj (bd H4 sc_239 rfl (fun _=>rfl) rfl fun x11 H5=>aj (az H5 en_192 rfl rfl fun r12 _ H6=>aa (ac rfl) rfl<|aa (aq rfl rfl) rfl<|aa (aq rfl rfl) rfl<|aa (ae rfl) rfl<|aa (ae rfl) rfl<|ad<|ag<|ab<|aa (ac rfl) rfl<|aa (v_sub rfl rfl) rfl<|aa (ae rfl) rfl<|ad<|ao<|aw (ay rfl (aD rfl)) ⟨(IntKind.u64.wrap (r12.1 - 1)),rfl,H6⟩)))
def rn (a0:Ptr) (a1:Int) (K:Bool→Hp→Prop):Hp→Prop:=br (!a0.isNone) ( nn a0 fun q9=>ld (q9.1,q9.2 + 1) cP fun x11=>cl Tryz.prog lV [(pv x11)] gJ fun r12=>br (r12 == a1) ( ld (q9.1,q9.2 + 0) cP fun x21=>cl Tryz.prog lV [(pv x21)] gJ fun r22=>K (decide (a1 < r22))) ( K false)) ( K false)
set_option maxRecDepth 20000 in
theorem sim_ticket_Lock_Turn (a0:Ptr) (a1:Int) {K:Bool→Hp→Prop} {h:Hp} (H:rn a0 a1 K h):Ct Tryz.prog jS #[(pv a0),(.int .u64 a1)] h fun v h'=>∃ r,v = aG r∧K r h':=aA [(pv a0),(.int .u64 a1)] Tryz.func195 rfl rfl rfl fun _=>ag<|ab<|aa (ae rfl) rfl<|ad<|ag<|ab<|aa (ac rfl) rfl<|aa (v_pneT Tryz.underlying241 rfl) rfl<|aa (ac rfl) rfl<|ak rfl rfl rfl (aB _) (fun g1=>wv (ac rfl)) rfl<|bO H (fun k3 H4=>bJ H4 fun q9 e5 H6=>aF rfl rfl rfl (congrArg Value.bool k3) (aJ (wv (aS (aV (aK rfl k3) (ax e5)))) rfl<|aF rfl rfl rfl (congrArg Value.bool k3) (aJ (wv (am fld_260_1 rfl)) rfl<|aF rfl rfl rfl (congrArg Value.bool k3) (bd H6 sc_239 rfl (fun _=>rfl) rfl fun x11 H7=>aF rfl rfl rfl (congrArg Value.bool k3) (az H7 en_204 rfl rfl fun r12 _ H8=>aF rfl rfl rfl (congrArg Value.bool k3) (aJ (wv (ac rfl)) rfl<|aF rfl rfl rfl (congrArg Value.bool k3) (aJ (wv (bV rfl rfl)) rfl<|aa (ba rfl k3 rfl) rfl<|aa (ac rfl) rfl<|ak rfl rfl rfl (aB _) (fun g9=>wv (ac rfl)) rfl<|ak rfl rfl rfl (aB _) (fun g10=>wv (ac (aV rfl (ax e5)))) rfl<|ak rfl rfl rfl (aB _) (fun g11=>wv (aS (aK rfl g11))) rfl<|ak rfl rfl rfl (aB _) (fun g12=>wv (am fld_260_0 (aK rfl g12))) rfl<|bO H8 (fun k14 H15=>aF rfl rfl rfl (congrArg Value.bool k14) (bd H15 sc_239 (aK rfl k14) (fun _=>rfl) rfl fun x21 H16=>aF rfl rfl rfl (congrArg Value.bool k14) (az H16 en_204 rfl rfl fun r22 _ H17=>aF rfl rfl rfl (congrArg Value.bool k14) (aJ (wv (cH (aK rfl k14) rfl)) rfl<|aa (ba rfl k14 rfl) rfl<|aa (ae rfl) rfl<|ad<|ao<|aw (ay rfl (aD rfl)) ⟨(decide (a1 < r22)),rfl,H17⟩)))) (fun k14 H15=>ah rfl rfl rfl (aY k14) rfl<|ah rfl rfl rfl (aY k14) rfl<|ah rfl rfl rfl (aY k14) rfl<|aa (an rfl k14 rfl) rfl<|aa (ae rfl) rfl<|ad<|ao<|aw (ay rfl (aD rfl)) ⟨false,rfl,H15⟩)))))))) (fun k3 H4=>ah rfl rfl rfl (aY k3) rfl<|ah rfl rfl rfl (aY k3) rfl<|ah rfl rfl rfl (aY k3) rfl<|ah rfl rfl rfl (aY k3) rfl<|ah rfl rfl rfl (aY k3) rfl<|ah rfl rfl rfl (aY k3) rfl<|aa (an rfl k3 rfl) rfl<|aa (ac rfl) rfl<|ah rfl rfl rfl rfl rfl<|ah rfl rfl rfl rfl rfl<|ah rfl rfl rfl rfl rfl<|ah rfl rfl rfl rfl rfl<|ah rfl rfl rfl rfl rfl<|ah rfl rfl rfl rfl rfl<|ah rfl rfl rfl rfl rfl<|aa (an rfl rfl rfl) rfl<|aa (ae rfl) rfl<|ad<|ao<|aw (ay rfl (aD rfl)) ⟨false,rfl,H4⟩)
def ro (a0:Ptr) (a1:Int) (K:Bool→Hp→Prop):Hp→Prop:=cl Tryz.prog jS [(pv a0),(.int .u64 a1)] aG fun r7=>br r7 ( nn a0 fun q10=>ld (q10.1,q10.2 + 1) cP fun x12=>cl Tryz.prog rc [(pv x12),(.int .u64 a1),(.int .u64 (IntKind.u64.wrap (a1 + 1)))] aG fun r16=>K r16) ( K false)
set_option maxRecDepth 20000 in
theorem sim_ticket_Lock_Pass (a0:Ptr) (a1:Int) {K:Bool→Hp→Prop} {h:Hp} (H:ro a0 a1 K h):Ct Tryz.prog mZ #[(pv a0),(.int .u64 a1)] h fun v h'=>∃ r,v = aG r∧K r h':=aA [(pv a0),(.int .u64 a1)] Tryz.func196 rfl rfl rfl fun _=>ag<|ab<|aa (ae rfl) rfl<|ad<|ag<|ab<|aa (ac rfl) rfl<|aa (ac rfl) rfl<|aj (az H en_195 rfl rfl fun r7 _ H1=>aa (ac rfl) rfl<|ak rfl rfl rfl (aB _) (fun g2=>wv (ac rfl)) rfl<|bO H1 (fun k4 H5=>bJ H5 fun q10 e6 H7=>aF rfl rfl rfl (congrArg Value.bool k4) (aJ (wv (aS (aV (aK rfl k4) (ax e6)))) rfl<|aF rfl rfl rfl (congrArg Value.bool k4) (aJ (wv (am fld_260_1 rfl)) rfl<|aF rfl rfl rfl (congrArg Value.bool k4) (bd H7 sc_239 rfl (fun _=>rfl) rfl fun x12 H8=>aF rfl rfl rfl (congrArg Value.bool k4) (aJ (wv (ac rfl)) rfl<|aF rfl rfl rfl (congrArg Value.bool k4) (aJ (wv (ac rfl)) rfl<|aF rfl rfl rfl (congrArg Value.bool k4) (aJ (wv (bK rfl rfl)) rfl<|aF rfl rfl rfl (congrArg Value.bool k4) (az H8 en_205 rfl rfl fun r16 _ H9=>aa (ba rfl k4 rfl) rfl<|aa (ae rfl) rfl<|ad<|ao<|aw (ay rfl (aD rfl)) ⟨r16,rfl,H9⟩)))))))) (fun k4 H5=>ah rfl rfl rfl (aY k4) rfl<|ah rfl rfl rfl (aY k4) rfl<|ah rfl rfl rfl (aY k4) rfl<|ah rfl rfl rfl (aY k4) rfl<|ah rfl rfl rfl (aY k4) rfl<|ah rfl rfl rfl (aY k4) rfl<|ah rfl rfl rfl (aY k4) rfl<|aa (an rfl k4 rfl) rfl<|aa (ae rfl) rfl<|ad<|ao<|aw (ay rfl (aD rfl)) ⟨false,rfl,H5⟩))
end Go.Proofs.YtniiiakkdoiaiaaGreatDoor
namespace Go.Proofs.YtniiiakkdoiaiaaGreatDoor
open Go Mb
def kF (x:Ptr) (c:Int × Int):As:=fun h=>∃ b:Nat,(x = some (b,0))∧aO [blk b qr [.int .u64 c.1,.int .i64 c.2]] h
theorem cell_op {x:Ptr} {c:Int × Int} {l:List As} {h:Hp} (s0:aO (kF x c::l) h):∃ b,x = some (b,0)∧aO (blk b qr [.int .u64 c.1,.int .i64 c.2]::l) h:=by
  obtain ⟨b,hx,st⟩:=op_ s0
  exact ⟨b,hx,st⟩
theorem cell_cl {b:Nat} {v n:Int} {l:List As} {h:Hp} (st:aO (blk b qr [.int .u64 v,.int .i64 n]::l) h):aO (kF (some (b,0)) (v,n)::l) h:=cl_ (m:=fun b=>[blk b qr [.int .u64 (v,n).1,.int .i64 (v,n).2]]) b rfl st
namespace Cell
def tick (c:Int × Int):Int × Int:=(c.1,IntKind.i64.wrap (c.2 + 1))
def cas (c:Int × Int) (o v:Int):Bool × Int × Int:=if c.1 = o then (true,v,(tick c).2) else (false,tick c)
def up (c:Int × Int) (m:Int):(Int × Bool) × Int × Int:=if c.1 ≥ m then ((c.1,false),tick c) else ((IntKind.u64.wrap (c.1 + 1),true),(IntKind.u64.wrap (c.1 + 1),(tick c).2))
end Cell
theorem sp_cell_New (v:Int):Sp Tryz.prog th [.int .u64 v] oU [] (fun r=>aO [kF r (v,0)]):=by
  intro h st
  refine sim_cell_New _ ?_
  unfold sh_cell_New
  exact oW st fun b h' s1=>cell_cl s1
theorem sp_cell_Load (x:Ptr) (c:Int × Int):Sp Tryz.prog lV [pv x] gJ [kF x c] (fun r=>pa_ (r = c.1) [kF x (Cell.tick c)]):=by
  intro h s0
  obtain ⟨b,rfl,st⟩:=cell_op s0
  refine sim_cell_Cell_Load _ ?_
  unfold uc
  refine dH rfl (cK ?_)
  refine bA c.2 st (i:=0) rfl rfl rfl ?_
  refine uz (i:=0) st rfl (Nat.le_refl _) fun h2 s2=>?_
  refine bA c.1 s2 (i:=0) rfl rfl rfl ?_
  exact bg rfl (cell_cl s2)
theorem sp_cell_Cas (x:Ptr) (c:Int × Int) (o v:Int):Sp Tryz.prog rc [pv x,.int .u64 o,.int .u64 v] aG [kF x c] (fun r=>pa_ (r = (Cell.cas c o v).1) [kF x (Cell.cas c o v).2]):=by
  intro h s0
  obtain ⟨b,rfl,st⟩:=cell_op s0
  refine sim_cell_Cell_Cas _ _ _ ?_
  unfold vo
  refine dH rfl (cK ?_)
  refine bA c.2 st (i:=0) rfl rfl rfl ?_
  refine uz (i:=0) st rfl (Nat.le_refl _) fun h2 s2=>?_
  refine bA c.1 s2 (i:=0) rfl rfl rfl ?_
  refine bi (fun k=>?_) (fun k=>?_)
  · have k':¬ c.1 = o:=by simpa using k
    have e:Cell.cas c o v = (false,Cell.tick c):=if_neg k'
    rw [e]
    exact bg rfl (cell_cl s2)
  · have k':c.1 = o:=by simpa using k
    have e:Cell.cas c o v = (true,v,(Cell.tick c).2):=if_pos k'
    rw [e]
    refine uz (i:=0) s2 rfl (show 0 + 0 + 1 ≤ 2 by decide) fun h3 s3=>?_
    exact bg rfl (cell_cl s3)
theorem sp_cell_Up (x:Ptr) (c:Int × Int) (m:Int):Sp Tryz.prog oL [pv x,.int .u64 m] bT [kF x c] (fun r=>pa_ (r = (Cell.up c m).1) [kF x (Cell.up c m).2]):=by
  intro h s0
  obtain ⟨b,rfl,st⟩:=cell_op s0
  refine sim_cell_Cell_Up _ _ ?_
  unfold sh_cell_Cell_Up
  refine dH rfl (cK ?_)
  refine bA c.2 st (i:=0) rfl rfl rfl ?_
  refine uz (i:=0) st rfl (Nat.le_refl _) fun h2 s2=>?_
  refine bA c.1 s2 (i:=0) rfl rfl rfl ?_
  refine bi (fun k=>?_) (fun k=>?_)
  · have k':c.1 ≥ m:=by simpa using k
    have e:Cell.up c m = ((c.1,false),Cell.tick c):=if_pos k'
    rw [e]
    refine bA c.1 s2 (i:=0) rfl rfl rfl ?_
    exact bg rfl (cell_cl s2)
  · have k':¬ c.1 ≥ m:=by simpa using k
    have e:Cell.up c m = ((IntKind.u64.wrap (c.1 + 1),true),(IntKind.u64.wrap (c.1 + 1),(Cell.tick c).2)):=if_neg k'
    rw [e]
    refine bA c.1 s2 (i:=0) rfl rfl rfl ?_
    refine uz (i:=0) s2 rfl (show 0 + 0 + 1 ≤ 2 by decide) fun h3 s3=>?_
    refine bA (IntKind.u64.wrap (c.1 + 1)) s3 (i:=0) rfl rfl rfl ?_
    exact bg rfl (cell_cl s3)
def uI (x:Ptr) (k:(Int × Int) × (Int × Int)):As:=fun h=>∃ bs:Nat × Ptr × Ptr,(x = some (bs.1,0))∧aO [blk bs.1 mC [pv bs.2.1,pv bs.2.2],kF bs.2.1 k.1,kF bs.2.2 k.2] h
theorem lock_op {x:Ptr} {k:(Int × Int) × (Int × Int)} {l:List As} {h:Hp} (s0:aO (uI x k::l) h):∃ b p q,x = some (b,0)∧aO (blk b mC [pv p,pv q]::kF p k.1::kF q k.2::l) h:=by
  obtain ⟨⟨b,p,q⟩,hx,st⟩:=op_ s0
  exact ⟨b,p,q,hx,st⟩
theorem lock_cl {b:Nat} {p q:Ptr} {k1 k2:Int × Int} {l:List As} {h:Hp} (st:aO (blk b mC [pv p,pv q]::kF p k1::kF q k2::l) h):aO (uI (some (b,0)) (k1,k2)::l) h :=
  cl_ (m:=fun bs:Nat × Ptr × Ptr=>[blk bs.1 mC [pv bs.2.1,pv bs.2.2],kF bs.2.1 (k1,k2).1,kF bs.2.2 (k1,k2).2]) (b,p,q) rfl st
namespace Lock
abbrev S:=(Int × Int) × (Int × Int)
def draw (k:S):Int × S:=(IntKind.u64.wrap ((Cell.up k.1 18446744073709551615).1.1 - 1),((Cell.up k.1 18446744073709551615).2,k.2))
def turn (k:S) (t:Int):Bool × S:=if k.2.1 = t then (decide (t < k.1.1),(Cell.tick k.1,Cell.tick k.2)) else (false,(k.1,Cell.tick k.2))
def pass (k:S) (t:Int):Bool × S:=if (turn k t).1 then ((Cell.cas (turn k t).2.2 t (IntKind.u64.wrap (t + 1))).1,((turn k t).2.1,(Cell.cas (turn k t).2.2 t (IntKind.u64.wrap (t + 1))).2)) else (false,(turn k t).2)
end Lock
theorem sp_ticket_New:Sp Tryz.prog wM [] tG [] (fun r=>aO [uI r ((0,0),(0,0))]):=by
  intro h st
  refine sim_ticket_New ?_
  unfold sh_ticket_New
  refine cR [] (sp_cell_New 0) st rfl fun p h1 s1=>?_
  refine cR [] (sp_cell_New 0) (dJ s1) rfl fun q h2 s2=>?_
  refine oW (dJ s2) fun b h3 s3=>?_
  exact lock_cl (bn [0,1] s3 rfl)
theorem sp_ticket_Draw (x:Ptr) (k:Lock.S):Sp Tryz.prog na [pv x] gJ [uI x k] (fun r=>pa_ (r = (Lock.draw k).1) [uI x (Lock.draw k).2]):=by
  intro h s0
  obtain ⟨b,p,q,rfl,st⟩:=lock_op s0
  refine sim_ticket_Lock_Draw _ ?_
  unfold rp
  refine dH rfl (cK ?_)
  refine bA p st (i:=0) rfl rfl rfl ?_
  refine cR [1] (sp_cell_Up p k.1 _) st rfl fun r h1 s1=>?_
  obtain ⟨hr,s2⟩:=bD.1 s1
  subst hr
  exact bg rfl (lock_cl (bn [1] s2 rfl))
theorem sp_ticket_Turn (x:Ptr) (k:Lock.S) (t:Int):Sp Tryz.prog jS [pv x,.int .u64 t] aG [uI x k] (fun r=>pa_ (r = (Lock.turn k t).1) [uI x (Lock.turn k t).2]):=by
  intro h s0
  obtain ⟨b,p,q,rfl,st⟩:=lock_op s0
  refine sim_ticket_Lock_Turn _ _ ?_
  unfold rn
  refine cT rfl (cK ?_)
  refine bA q st (i:=0) rfl rfl rfl ?_
  refine cR [2] (sp_cell_Load q k.2) st rfl fun r h1 s1=>?_
  obtain ⟨hr,s2⟩:=bD.1 s1
  subst hr
  refine bi (fun c=>?_) (fun c=>?_)
  · have c':k.2.1 = t:=by simpa using c
    have e:Lock.turn k t = (decide (t < k.1.1),(Cell.tick k.1,Cell.tick k.2)):=if_pos c'
    rw [e]
    refine bA p s2 (i:=1) rfl rfl rfl ?_
    refine cR [2] (sp_cell_Load p k.1) s2 rfl fun r h2 s3=>?_
    obtain ⟨hr,s4⟩:=bD.1 s3
    subst hr
    exact bg rfl (lock_cl (bn [2] s4 rfl))
  · have c':¬ k.2.1 = t:=by simpa using c
    have e:Lock.turn k t = (false,(k.1,Cell.tick k.2)):=if_neg c'
    rw [e]
    exact bg rfl (lock_cl (bn [1,1] s2 rfl))
theorem sp_ticket_Pass (x:Ptr) (k:Lock.S) (t:Int):Sp Tryz.prog mZ [pv x,.int .u64 t] aG [uI x k] (fun r=>pa_ (r = (Lock.pass k t).1) [uI x (Lock.pass k t).2]):=by
  intro h s0
  refine sim_ticket_Lock_Pass _ _ ?_
  unfold ro
  refine cR [0] (sp_ticket_Turn x k t) s0 rfl fun r h1 s1=>?_
  obtain ⟨hr,s2⟩:=bD.1 s1
  subst hr
  refine bi (fun c=>?_) (fun c=>?_)
  · have e:Lock.pass k t = ((Cell.cas (Lock.turn k t).2.2 t (IntKind.u64.wrap (t + 1))).1,((Lock.turn k t).2.1,(Cell.cas (Lock.turn k t).2.2 t (IntKind.u64.wrap (t + 1))).2)):=if_pos c
    rw [e]
    obtain ⟨b,p,q,rfl,st⟩:=lock_op s2
    refine cK (bA q st (i:=0) rfl rfl rfl ?_)
    refine cR [2] (sp_cell_Cas q _ t _) st rfl fun r h2 s3=>?_
    obtain ⟨hr,s4⟩:=bD.1 s3
    subst hr
    exact bg rfl (lock_cl (bn [1,1] s4 rfl))
  · have e:Lock.pass k t = (false,(Lock.turn k t).2):=by unfold Lock.pass; rw [c]; rfl
    rw [e]
    exact bg rfl s2
end Go.Proofs.YtniiiakkdoiaiaaGreatDoor
