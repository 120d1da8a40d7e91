/- Part of the proof of: The law KernForm returns true for every input, and leaves its arguments as they were. -/
import Derived.Test.YtniiiakkdoiaiaaGreatDoorKernForm13
set_option linter.all false
namespace Go.Proofs.YtniiiakkdoiaiaaGreatDoor
open Go Mb
set_option linter.unusedVariables false
def errors_as_l2 (a1:Value) (a2:aV) (a3:Value) (K:Bool→Hp→Prop) (v48:Sl) (Rec25:Int→Hp→Prop) (s24:Int):Hp→Prop:=br (decide (s24 < (v48.len:Int))) ( ix v48 s24 fun q52=>ld (q52.1,q52.2 + Int.toNat s24 * 1) cV fun x53=>hpv Tryz.prog (do eqGuard .eql 171 (.tmp 54) (.const Value.nilIface) x53 Value.nilIface; binOp .eql 171 x53 Value.nilIface:Sem Value) aG fun (v55:Bool)=>br v55 ( Rec25 (IntKind.i64.wrap (s24 + 1))) ( cl Tryz.prog uf [x53,a1,(.agg (aV.C a2).toArray),a3] aG fun r60=>br r60 ( K true) ( Rec25 (IntKind.i64.wrap (s24 + 1))))) ( K false)
def wS (a1:Value) (a2:aV) (a3:Value) (K:Bool→Hp→Prop) (Rec2:Value→Hp→Prop) (s1:Value) (s11:Unit):Hp→Prop:=hpv Tryz.prog (Instr.typeAssert s1 gm jg true) gi fun (v37:Value × Bool)=>br v37.2 ( cln Tryz.prog (callMethod v37.1 "Unwrap" #[]) encV fun (v41:Value)=>hpv Tryz.prog (do eqGuard .eql 171 (.tmp 42) (.const Value.nilIface) v41 Value.nilIface; binOp .eql 171 v41 Value.nilIface:Sem Value) aG fun (v43:Bool)=>br v43 ( K false) ( Rec2 v41)) ( hpv Tryz.prog (Instr.typeAssert s1 gm iB true) fT fun (v44:Value × Bool)=>br v44.2 ( cln Tryz.prog (callMethod v44.1 "Unwrap" #[]) R_Serror fun (v48:Sl)=>Lp (errors_as_l2 a1 a2 a3 K v48) 0) ( K false))
def wR (a1:Value) (a2:aV) (a3:Value) (K:Bool→Hp→Prop) (Rec2:Value→Hp→Prop) (s1:Value):Hp→Prop:=cln Tryz.prog (callFunc ga #[s1]) encV fun (v17:Value)=>cln Tryz.prog (callMethod v17 "AssignableTo" #[a3]) aG fun (v19:Bool)=>br v19 ( cln Tryz.prog (callFunc fj #[(.agg (aV.C a2).toArray)]) fC fun (v21:aV)=>cln Tryz.prog (callFunc cZ #[s1]) fC fun (v23:aV)=>cln Tryz.prog (callFunc fw #[(.agg (aV.C v21).toArray),(.agg (aV.C v23).toArray)]) R_ fun (v24:Unit)=>K true) ( hpv Tryz.prog (Instr.typeAssert s1 gm qn true) nq fun (v27:Value × Bool)=>br v27.2 ( cln Tryz.prog (callMethod v27.1 "As" #[a1]) aG fun (v34:Bool)=>br v34 ( K true) ( wS a1 a2 a3 K Rec2 s1 ())) ( wS a1 a2 a3 K Rec2 s1 ()))
def sh_errors_as (a0:Value) (a1:Value) (a2:aV) (a3:Value) (K:Bool→Hp→Prop):Hp→Prop:=Lp (wR a1 a2 a3 K) a0
set_option maxRecDepth 20000 in
theorem sim_errors_as (a0:Value) (a1:Value) (a2:aV) (a3:Value) {K:Bool→Hp→Prop} {h:Hp} (H:sh_errors_as a0 a1 a2 a3 K h):Ct Tryz.prog uf #[a0,a1,(.agg (aV.C a2).toArray),a3] h fun v h'=>∃ r,v = aG r∧K r h':=aC [a0,a1,(.agg (aV.C a2).toArray),a3] Tryz.func212 rfl rfl rfl fun _=>ag<|ab<|aj (cH (l:=(aV.C a2)) rfl rfl rfl fun b6=>aa (ae rfl) rfl<|ad<|aF<|bS (step:=wR a1 a2 a3 K) (fun s1=>[(0,s1),(1,a1),(3,a3),(6,(.pointer (some ⟨b6,0,none⟩)))]) (fun s1=>[bx b6 269 (aV.C a2)]) H (.cons rfl (.cons rfl (.cons rfl (.cons rfl (.nil _))))) (.cons_cons _ .slnil) (fun Rec2 s1 _ H3=>aF<|ag<|ag<|ab<|aa (ac rfl) rfl<|aj (fY H3 (rB (vs:=[s1]) rfl) rfl fun v17 _ H4=>aa (ac rfl) rfl<|aj (fY H4 (fX (vs:=[a3]) rfl rfl) rfl fun v19 _ H5=>ad<|aD rfl H5 (fun k6 H7=>ag<|ab<|bz (bO (k:=0) ag_269 rfl rfl rfl rfl) rfl<|aj (fY H7 (rB (vs:=[(.agg (aV.C a2).toArray)]) rfl) rfl fun v21 _ H8=>aa (ac rfl) rfl<|aj (fY H8 (rB (vs:=[s1]) rfl) rfl fun v23 _ H9=>aj (fY H9 (rB (vs:=[(.agg (aV.C v21).toArray),(.agg (aV.C v23).toArray)]) rfl) rfl fun v24 _ H10=>ad<|ag<|ab<|aa (ae rfl) rfl<|ad<|an<|av (az rfl (aE rfl)) ⟨true,rfl,H10⟩)))) (fun k6 H7=>au<|eG (wS a1 a2 a3 K Rec2 s1) (fun s11=>[(0,s1),(1,a1),(3,a3),(6,(.pointer (some ⟨b6,0,none⟩)))]) (fun s11=>[bx b6 269 (aV.C a2)]) ( ag<|ab<|aa (ac rfl) rfl<|aj (be H7 (fV rfl) rfl fun v27 _ H39=>aa (ac rfl) rfl<|aa (ap rfl rfl) rfl<|aa (ap rfl rfl) rfl<|aa (ae rfl) rfl<|aa (ae rfl) rfl<|ad<|ag<|ab<|aa (ac rfl) rfl<|aa (ac rfl) rfl<|ai rfl rfl rfl (aB _) (fun g40=>wv (ac rfl)) rfl<|ai rfl rfl rfl (aB _) (fun g41=>wv (ac rfl)) rfl<|bW H39 (fun k43 H44=>aI rfl rfl rfl (congrArg Value.bool k43) (fY H44 (fX (vs:=[a1]) (aK rfl k43) (aY (aK rfl k43) bU)) rfl fun v34 _ H45=>aa (aT rfl k43 rfl) rfl<|ad<|aD rfl H45 (fun k46 H47=>ag<|ab<|aa (ae rfl) rfl<|ad<|an<|av (az rfl (aE rfl)) ⟨true,rfl,H47⟩) (fun k46 H47=>au<|cQ () H47 (.cons rfl (.cons rfl (.cons rfl (.cons rfl (.nil _))))) (.cons_cons _ .slnil)))) (fun k43 H44=>al rfl rfl rfl (aZ k43) rfl<|aa (ax rfl k43 rfl) rfl<|ad<|ev_no rfl rfl<|au<|cQ () H44 (.cons rfl (.cons rfl (.cons rfl (.cons rfl (.nil _))))) (.cons_cons _ .slnil)))) (fun s11 _ H12=>ag<|ab<|aa (ac rfl) rfl<|ad<|aF<|ag<|ab<|aj (be H12 (fV rfl) rfl fun v37 _ H13=>aa (ap rfl rfl) rfl<|aa (ap rfl rfl) rfl<|ad<|aD rfl H13 (fun k14 H15=>ag<|ab<|aa (ae rfl) rfl<|ad<|ag<|ab<|aa (ac rfl) rfl<|aj (fY H15 (fX (vs:=[]) rfl rfl) rfl fun v41 _ H16=>aa (ae rfl) rfl<|ad<|ag<|ab<|aa (ac rfl) rfl<|aj (be H16 (gl rfl rfl) rfl fun v43 _ H17=>ad<|aD rfl H17 (fun k18 H19=>ag<|ab<|aa (ae rfl) rfl<|ad<|an<|av (az rfl (aE rfl)) ⟨false,rfl,H19⟩) (fun k18 H19=>au<|cW v41 H19 (.cons rfl (.cons rfl (.cons rfl (.cons rfl (.nil _))))) (.cons_cons _ .slnil))))) (fun k14 H15=>ag<|ab<|aj (be H15 (fV rfl) rfl fun v44 _ H20=>aa (ap rfl rfl) rfl<|aa (ap rfl rfl) rfl<|ad<|aD rfl H20 (fun k21 H22=>ag<|ab<|aa (ae rfl) rfl<|ad<|ag<|ag<|ab<|aa (ac rfl) rfl<|aj (fY H22 (fX (vs:=[]) rfl rfl) rfl fun v48 _ H23=>aa (dH rfl Tryz.underlying253 rfl) rfl<|aa (ac rfl) rfl<|ad<|aF<|bS (step:=errors_as_l2 a1 a2 a3 K v48) (fun s24=>[(1,a1),(3,a3),(6,(.pointer (some ⟨b6,0,none⟩))),(48,(sv v48)),(49,(.int .i64 (v48.len:Int))),(50,(.int .i64 s24))]) (fun s24=>[bx b6 269 (aV.C a2)]) H23 (.cons rfl (.cons rfl (.cons rfl (.cons rfl (.cons rfl (.cons rfl (.nil _))))))) (.cons_cons _ .slnil) (fun Rec25 s24 _ H26=>ag<|ab<|aa (cA rfl rfl) rfl<|ad<|ag<|aD rfl H26 (fun k27 H28=>au<|ag<|aF<|ag<|ab<|cu H28 fun q52 e29 h30 H31=>aa (bC slc_253 (aX rfl (bm e29)) rfl h30) rfl<|aj (bf H31 sc_171 rfl (fun _=>rfl) rfl fun x53 H32=>aa (ae rfl) rfl<|ad<|ag<|ag<|ab<|aa (ac rfl) rfl<|aj (be H32 (gl rfl rfl) rfl fun v55 _ H33=>ad<|aD rfl H33 (fun k34 H35=>bD<|ab<|aa (bM rfl rfl) rfl<|aa (ac rfl) rfl<|ad<|cW (IntKind.i64.wrap (s24 + 1)) H35 (.cons rfl (.cons rfl (.cons rfl (.cons rfl (.cons rfl (.cons rfl (.nil _))))))) (.cons_cons _ .slnil)) (fun k34 H35=>au<|ag<|ab<|aa (ac rfl) rfl<|aa (ac rfl) rfl<|bz (bO (k:=0) ag_269 rfl rfl rfl rfl) rfl<|aa (ac rfl) rfl<|aj (aA H35 en_212 rfl rfl fun r60 _ H36=>ad<|aD rfl H36 (fun k37 H38=>ag<|ab<|aa (ae rfl) rfl<|ad<|an<|av (az rfl (aE rfl)) ⟨true,rfl,H38⟩) (fun k37 H38=>au<|ab<|aa (bM rfl rfl) rfl<|aa (ac rfl) rfl<|ad<|cW (IntKind.i64.wrap (s24 + 1)) H38 (.cons rfl (.cons rfl (.cons rfl (.cons rfl (.cons rfl (.cons rfl (.nil _))))))) (.cons_cons _ .slnil))))))) (fun k27 H28=>bD<|ag<|ab<|aa (ae rfl) rfl<|ad<|an<|av (az rfl (aE rfl)) ⟨false,rfl,H28⟩)))) (fun k21 H22=>ag<|ab<|aa (ae rfl) rfl<|ad<|ag<|ab<|aa (ae rfl) rfl<|ad<|an<|av (az rfl (aE rfl)) ⟨false,rfl,H22⟩))))))))))
def rR (a0:Value) (a1:Value) (K:Bool→Hp→Prop) (v14:aV) (v26:Value) (s11:Unit):Hp→Prop:=cl Tryz.prog uf [a0,a1,(.agg (aV.C v14).toArray),v26] aG fun r41=>K r41
def wT (a0:Value) (a1:Value) (K:Bool→Hp→Prop) (v14:aV) (v16:Value) (s8:Unit):Hp→Prop:=cln Tryz.prog (callMethod v16 "Elem" #[]) encV fun (v26:Value)=>cln Tryz.prog (callMethod v26 "Kind" #[]) R_abi_Kind fun (v28:Int)=>br (v28 != 20) ( ld (0,0) cV fun x32=>cln Tryz.prog (callMethod v26 "Implements" #[x32]) aG fun (v33:Bool)=>br (!v33) ( hpv Tryz.prog (Instr.makeInterface uG (.string str_6ae768b9)) encV fun (v36:Value)=>nope) ( rR a0 a1 K v14 v26 ())) ( rR a0 a1 K v14 v26 ())
def wU (a0:Value) (a1:Value) (K:Bool→Hp→Prop) (s4:Unit):Hp→Prop:=cln Tryz.prog (callFunc cZ #[a1]) fC fun (v14:aV)=>cln Tryz.prog (callFunc iz #[(.agg (aV.C v14).toArray)]) encV fun (v16:Value)=>cln Tryz.prog (callMethod v16 "Kind" #[]) R_abi_Kind fun (v18:Int)=>br (!(v18 != 22)) ( cln Tryz.prog (callFunc eT #[(.agg (aV.C v14).toArray)]) aG fun (v22:Bool)=>br v22 ( hpv Tryz.prog (Instr.makeInterface uG (.string str_ae9b7a08)) encV fun (v24:Value)=>nope) ( wT a0 a1 K v14 v16 ())) ( hpv Tryz.prog (Instr.makeInterface uG (.string str_ae9b7a08)) encV fun (v24:Value)=>nope)
def wt (a0:Value) (a1:Value) (K:Bool→Hp→Prop):Hp→Prop:=hpv Tryz.prog (do eqGuard .eql 171 (.tmp 8) (.const Value.nilIface) a0 Value.nilIface; binOp .eql 171 a0 Value.nilIface:Sem Value) aG fun (v9:Bool)=>br v9 ( K false) ( hpv Tryz.prog (do eqGuard .eql 20 (.tmp 10) (.const Value.nilIface) a1 Value.nilIface; binOp .eql 20 a1 Value.nilIface:Sem Value) aG fun (v11:Bool)=>br v11 ( hpv Tryz.prog (Instr.makeInterface uG (.string str_53947bae)) encV fun (v12:Value)=>nope) ( wU a0 a1 K ()))
set_option maxRecDepth 20000 in
theorem sim_errors_As (a0:Value) (a1:Value) {K:Bool→Hp→Prop} {h:Hp} (H:wt a0 a1 K h):Ct Tryz.prog ug #[a0,a1] h fun v h'=>∃ r,v = aG r∧K r h':=aC [a0,a1] Tryz.func207 rfl rfl rfl fun _=>ag<|ab<|aa (ae rfl) rfl<|ad<|ag<|ag<|ab<|aa (ac rfl) rfl<|aj (be H (gl rfl rfl) rfl fun v9 _ H1=>ad<|aD rfl H1 (fun k2 H3=>ag<|ab<|aa (ae rfl) rfl<|ad<|an<|av (az rfl (aE rfl)) ⟨false,rfl,H3⟩) (fun k2 H3=>au<|eG (wU a0 a1 K) (fun s4=>[(0,a0),(1,a1)]) (fun s4=>[]) ( ag<|ab<|aa (ac rfl) rfl<|aj (be H3 (gl rfl rfl) rfl fun v11 _ H34=>ad<|aD rfl H34 (fun k35 H36=>ab<|aj (be H36 (gw rfl) rfl fun v12 _ H37=>evlNo H37)) (fun k35 H36=>au<|cQ () H36 (.cons rfl (.cons rfl (.nil _))) .slnil))) (fun s4 _ H5=>ag<|ab<|aa (ac rfl) rfl<|aj (fY H5 (rB (vs:=[a1]) rfl) rfl fun v14 _ H6=>aj (bb (l:=(aV.C (⟨none,none,0⟩:aV))) zero_269 rfl rfl fun b5=>aj (bc (k:=0) (vs:=(aV.C v14)) inf_269 rfl rfl rfl rfl rfl rfl rfl<|ad<|ag<|ab<|bz (bO (k:=0) ag_269 rfl rfl rfl rfl) rfl<|aj (fY H6 (rB (vs:=[(.agg (aV.C v14).toArray)]) rfl) rfl fun v16 _ H7=>aa (ae rfl) rfl<|ad<|eG (wT a0 a1 K v14 v16) (fun s8=>[(0,a0),(1,a1),(5,(.pointer (some ⟨b5,0,none⟩))),(6,v16)]) (fun s8=>[bx b5 269 (aV.C v14)]) ( ag<|ab<|aa (ac rfl) rfl<|aj (fY H7 (fX (vs:=[]) rfl rfl) rfl fun v18 _ H24=>aa (pA rfl rfl) rfl<|aa (ac rfl) rfl<|ai rfl rfl rfl (aS _) (fun g25=>cv (bO (k:=0) ag_269 rfl rfl rfl rfl)) rfl<|bW H24 (fun k27 H28=>aI rfl rfl rfl (congrArg Value.bool (bL k27)) (fY H28 (rB (vs:=[(.agg (aV.C v14).toArray)]) (aY (aK rfl k27) bU)) rfl fun v22 _ H29=>aa (ax rfl (bL k27) rfl) rfl<|ad<|aD rfl H29 (fun k30 H31=>ab<|aj (be H31 (gw rfl) rfl fun v24 _ H32=>evlNo H32)) (fun k30 H31=>au<|cQ () H31 (.cons rfl (.cons rfl (.cons rfl (.cons rfl (.nil _))))) (.cons_cons _ .slnil)))) (fun k27 H28=>al rfl rfl rfl (bF (bp k27)) rfl<|aa (aT rfl (bp k27) rfl) rfl<|ad<|gR rfl rfl<|ab<|aj (be H28 (gw rfl) rfl fun v24 _ H33=>evlNo H33)))) (fun s8 _ H9=>ag<|ab<|aa (ac rfl) rfl<|aj (fY H9 (fX (vs:=[]) rfl rfl) rfl fun v26 _ H10=>aa (ae rfl) rfl<|ad<|eG (rR a0 a1 K v14 v26) (fun s11=>[(0,a0),(1,a1),(5,(.pointer (some ⟨b5,0,none⟩))),(7,v26)]) (fun s11=>[bx b5 269 (aV.C v14)]) ( ag<|ab<|aa (ac rfl) rfl<|aj (fY H10 (fX (vs:=[]) rfl rfl) rfl fun v28 _ H14=>aa (pA rfl rfl) rfl<|aa (ac rfl) rfl<|ai rfl rfl rfl (aB _) (fun g15=>wv (ac rfl)) rfl<|bW H14 (fun k17 H18=>aI rfl rfl rfl (congrArg Value.bool k17) (bf H18 sc_223 rfl (fun _=>rfl) rfl fun x32 H19=>aI rfl rfl rfl (congrArg Value.bool k17) (fY H19 (fX (vs:=[x32]) (aK rfl k17) rfl) rfl fun v33 _ H20=>aI rfl rfl rfl (congrArg Value.bool k17) (aN (wv (cw rfl)) rfl<|aa (aT rfl k17 rfl) rfl<|ad<|aD rfl H20 (fun k21 H22=>ab<|aj (be H22 (gw rfl) rfl fun v36 _ H23=>evlNo H23)) (fun k21 H22=>au<|cQ () H22 (.cons rfl (.cons rfl (.cons rfl (.cons rfl (.nil _))))) (.cons_cons _ .slnil)))))) (fun k17 H18=>al rfl rfl rfl (aZ k17) rfl<|al rfl rfl rfl (aZ k17) rfl<|al rfl rfl rfl (aZ k17) rfl<|aa (ax rfl k17 rfl) rfl<|ad<|ev_no rfl rfl<|au<|cQ () H18 (.cons rfl (.cons rfl (.cons rfl (.cons rfl (.nil _))))) (.cons_cons _ .slnil)))) (fun s11 _ H12=>ag<|ab<|aa (ac rfl) rfl<|aa (ac rfl) rfl<|bz (bO (k:=0) ag_269 rfl rfl rfl rfl) rfl<|aa (ac rfl) rfl<|aj (aA H12 en_212 rfl rfl fun r41 _ H13=>aa (ae rfl) rfl<|ad<|an<|av (az rfl (aE rfl)) ⟨r41,rfl,H13⟩)))))))))))
def errors_is_l2 (a1:Value) (a2:Bool) (K:Bool→Hp→Prop) (v43:Sl) (Rec26:Int→Hp→Prop) (s25:Int):Hp→Prop:=br (decide (s25 < (v43.len:Int))) ( ix v43 s25 fun q47=>ld (q47.1,q47.2 + Int.toNat s25 * 1) cV fun x48=>cl Tryz.prog nC [x48,a1,(.bool a2)] aG fun r52=>br r52 ( K true) ( Rec26 (IntKind.i64.wrap (s25 + 1)))) ( K false)
def rQ (a1:Value) (a2:Bool) (K:Bool→Hp→Prop) (Rec2:Value→Hp→Prop) (s1:Value) (s12:Unit):Hp→Prop:=hpv Tryz.prog (Instr.typeAssert s1 gm jg true) gi fun (v32:Value × Bool)=>br v32.2 ( cln Tryz.prog (callMethod v32.1 "Unwrap" #[]) encV fun (v36:Value)=>hpv Tryz.prog (do eqGuard .eql 171 (.tmp 37) (.const Value.nilIface) v36 Value.nilIface; binOp .eql 171 v36 Value.nilIface:Sem Value) aG fun (v38:Bool)=>br v38 ( K false) ( Rec2 v36)) ( hpv Tryz.prog (Instr.typeAssert s1 gm iB true) fT fun (v39:Value × Bool)=>br v39.2 ( cln Tryz.prog (callMethod v39.1 "Unwrap" #[]) R_Serror fun (v43:Sl)=>Lp (errors_is_l2 a1 a2 K v43) 0) ( K false))
def errors_is_l3 (a1:Value) (a2:Bool) (K:Bool→Hp→Prop) (v43:Sl) (Rec60:Int→Hp→Prop) (s59:Int):Hp→Prop:=br (decide (s59 < (v43.len:Int))) ( ix v43 s59 fun q47=>ld (q47.1,q47.2 + Int.toNat s59 * 1) cV fun x48=>cl Tryz.prog nC [x48,a1,(.bool a2)] aG fun r52=>br r52 ( K true) ( Rec60 (IntKind.i64.wrap (s59 + 1)))) ( K false)
def wQ (a1:Value) (a2:Bool) (K:Bool→Hp→Prop) (Rec2:Value→Hp→Prop) (s1:Value) (s46:Unit):Hp→Prop:=hpv Tryz.prog (Instr.typeAssert s1 gm jg true) gi fun (v32:Value × Bool)=>br v32.2 ( cln Tryz.prog (callMethod v32.1 "Unwrap" #[]) encV fun (v36:Value)=>hpv Tryz.prog (do eqGuard .eql 171 (.tmp 37) (.const Value.nilIface) v36 Value.nilIface; binOp .eql 171 v36 Value.nilIface:Sem Value) aG fun (v38:Bool)=>br v38 ( K false) ( Rec2 v36)) ( hpv Tryz.prog (Instr.typeAssert s1 gm iB true) fT fun (v39:Value × Bool)=>br v39.2 ( cln Tryz.prog (callMethod v39.1 "Unwrap" #[]) R_Serror fun (v43:Sl)=>Lp (errors_is_l3 a1 a2 K v43) 0) ( K false))
def rP (a1:Value) (a2:Bool) (K:Bool→Hp→Prop) (Rec2:Value→Hp→Prop) (s1:Value):Hp→Prop:=br a2 ( hpv Tryz.prog (do eqGuard .eql 171 (.tmp 16) (.tmp 17) s1 a1; binOp .eql 171 s1 a1:Sem Value) aG fun (v18:Bool)=>br v18 ( K true) ( hpv Tryz.prog (Instr.typeAssert s1 gm mc true) jG fun (v22:Value × Bool)=>br v22.2 ( cln Tryz.prog (callMethod v22.1 "Is" #[a1]) aG fun (v29:Bool)=>br v29 ( K true) ( rQ a1 a2 K Rec2 s1 ())) ( rQ a1 a2 K Rec2 s1 ()))) ( hpv Tryz.prog (Instr.typeAssert s1 gm mc true) jG fun (v22:Value × Bool)=>br v22.2 ( cln Tryz.prog (callMethod v22.1 "Is" #[a1]) aG fun (v29:Bool)=>br v29 ( K true) ( wQ a1 a2 K Rec2 s1 ())) ( wQ a1 a2 K Rec2 s1 ()))
def wo (a0:Value) (a1:Value) (a2:Bool) (K:Bool→Hp→Prop):Hp→Prop:=Lp (rP a1 a2 K) a0
set_option maxRecDepth 20000 in
theorem sim_errors_is (a0:Value) (a1:Value) (a2:Bool) {K:Bool→Hp→Prop} {h:Hp} (H:wo a0 a1 a2 K h):Ct Tryz.prog nC #[a0,a1,(.bool a2)] h fun v h'=>∃ r,v = aG r∧K r h':=aC [a0,a1,(.bool a2)] Tryz.func174 rfl rfl rfl fun _=>ag<|ab<|aa (ae rfl) rfl<|ad<|aF<|bS (step:=rP a1 a2 K) (fun s1=>[(0,s1),(1,a1),(2,(.bool a2))]) (fun s1=>[]) H (.cons rfl (.cons rfl (.cons rfl (.nil _)))) .slnil (fun Rec2 s1 _ H3=>aF<|ag<|ag<|ab<|aa (ac rfl) rfl<|aa (ac rfl) rfl<|ai rfl rfl rfl (aB _) (fun g4=>wv (ac rfl)) rfl<|ai rfl rfl rfl (aB _) (fun g5=>wv (ac rfl)) rfl<|bW H3 (fun k7 H8=>aI rfl rfl rfl (congrArg Value.bool k7) (be H8 (gl (aK rfl k7) (aK rfl k7)) rfl fun v18 _ H9=>aa (aT rfl k7 rfl) rfl<|ad<|aD rfl H9 (fun k10 H11=>ag<|ab<|aa (ae rfl) rfl<|ad<|an<|av (az rfl (aE rfl)) ⟨true,rfl,H11⟩) (fun k10 H11=>au<|eG (rQ a1 a2 K Rec2 s1) (fun s12=>[(0,s1),(1,a1),(2,(.bool a2))]) (fun s12=>[]) ( ag<|ab<|aa (ac rfl) rfl<|aj (be H11 (fV rfl) rfl fun v22 _ H37=>aa (ac rfl) rfl<|aa (ap rfl rfl) rfl<|aa (ap rfl rfl) rfl<|aa (ae rfl) rfl<|aa (ae rfl) rfl<|ad<|ag<|ab<|aa (ac rfl) rfl<|aa (ac rfl) rfl<|ai rfl rfl rfl (aB _) (fun g38=>wv (ac rfl)) rfl<|ai rfl rfl rfl (aB _) (fun g39=>wv (ac rfl)) rfl<|bW H37 (fun k41 H42=>aI rfl rfl rfl (congrArg Value.bool k41) (fY H42 (fX (vs:=[a1]) (aK rfl k41) (aY (aK rfl k41) bU)) rfl fun v29 _ H43=>aa (aT rfl k41 rfl) rfl<|ad<|aD rfl H43 (fun k44 H45=>ag<|ab<|aa (ae rfl) rfl<|ad<|an<|av (az rfl (aE rfl)) ⟨true,rfl,H45⟩) (fun k44 H45=>au<|cQ () H45 (.cons rfl (.cons rfl (.cons rfl (.nil _)))) .slnil))) (fun k41 H42=>al rfl rfl rfl (aZ k41) rfl<|aa (ax rfl k41 rfl) rfl<|ad<|ev_no rfl rfl<|au<|cQ () H42 (.cons rfl (.cons rfl (.cons rfl (.nil _)))) .slnil))) (fun s12 _ H13=>ag<|ab<|aa (ac rfl) rfl<|ad<|aF<|ag<|ab<|aj (be H13 (fV rfl) rfl fun v32 _ H14=>aa (ap rfl rfl) rfl<|aa (ap rfl rfl) rfl<|ad<|aD rfl H14 (fun k15 H16=>ag<|ab<|aa (ae rfl) rfl<|ad<|ag<|ab<|aa (ac rfl) rfl<|aj (fY H16 (fX (vs:=[]) rfl rfl) rfl fun v36 _ H17=>aa (ae rfl) rfl<|ad<|ag<|ab<|aa (ac rfl) rfl<|aj (be H17 (gl rfl rfl) rfl fun v38 _ H18=>ad<|aD rfl H18 (fun k19 H20=>ag<|ab<|aa (ae rfl) rfl<|ad<|an<|av (az rfl (aE rfl)) ⟨false,rfl,H20⟩) (fun k19 H20=>au<|cW v36 H20 (.cons rfl (.cons rfl (.cons rfl (.nil _)))) .slnil)))) (fun k15 H16=>ag<|ab<|aj (be H16 (fV rfl) rfl fun v39 _ H21=>aa (ap rfl rfl) rfl<|aa (ap rfl rfl) rfl<|ad<|aD rfl H21 (fun k22 H23=>ag<|ab<|aa (ae rfl) rfl<|ad<|ag<|ag<|ab<|aa (ac rfl) rfl<|aj (fY H23 (fX (vs:=[]) rfl rfl) rfl fun v43 _ H24=>aa (dH rfl Tryz.underlying253 rfl) rfl<|aa (ac rfl) rfl<|ad<|aF<|bS (step:=errors_is_l2 a1 a2 K v43) (fun s25=>[(1,a1),(2,(.bool a2)),(43,(sv v43)),(44,(.int .i64 (v43.len:Int))),(45,(.int .i64 s25))]) (fun s25=>[]) H24 (.cons rfl (.cons rfl (.cons rfl (.cons rfl (.cons rfl (.nil _)))))) .slnil (fun Rec26 s25 _ H27=>ag<|ab<|aa (cA rfl rfl) rfl<|ad<|ag<|aD rfl H27 (fun k28 H29=>au<|ag<|aF<|ag<|ab<|cu H29 fun q47 e30 h31 H32=>aa (bC slc_253 (aX rfl (bm e30)) rfl h31) rfl<|aj (bf H32 sc_171 rfl (fun _=>rfl) rfl fun x48 H33=>aa (ae rfl) rfl<|ad<|ag<|ab<|aa (ac rfl) rfl<|aa (ac rfl) rfl<|aa (ac rfl) rfl<|aj (aA H33 en_174 rfl rfl fun r52 _ H34=>ad<|aD rfl H34 (fun k35 H36=>ag<|ab<|aa (ae rfl) rfl<|ad<|an<|av (az rfl (aE rfl)) ⟨true,rfl,H36⟩) (fun k35 H36=>au<|ab<|aa (bM rfl rfl) rfl<|aa (ac rfl) rfl<|ad<|cW (IntKind.i64.wrap (s25 + 1)) H36 (.cons rfl (.cons rfl (.cons rfl (.cons rfl (.cons rfl (.nil _)))))) .slnil)))) (fun k28 H29=>bD<|ag<|ab<|aa (ae rfl) rfl<|ad<|an<|av (az rfl (aE rfl)) ⟨false,rfl,H29⟩)))) (fun k22 H23=>ag<|ab<|aa (ae rfl) rfl<|ad<|ag<|ab<|aa (ae rfl) rfl<|ad<|an<|av (az rfl (aE rfl)) ⟨false,rfl,H23⟩)))))))) (fun k7 H8=>al rfl rfl rfl (aZ k7) rfl<|aa (ax rfl k7 rfl) rfl<|ad<|ev_no rfl rfl<|au<|eG (wQ a1 a2 K Rec2 s1) (fun s46=>[(0,s1),(1,a1),(2,(.bool a2))]) (fun s46=>[]) ( ag<|ab<|aa (ac rfl) rfl<|aj (be H8 (fV rfl) rfl fun v22 _ H71=>aa (ac rfl) rfl<|aa (ap rfl rfl) rfl<|aa (ap rfl rfl) rfl<|aa (ae rfl) rfl<|aa (ae rfl) rfl<|ad<|ag<|ab<|aa (ac rfl) rfl<|aa (ac rfl) rfl<|ai rfl rfl rfl (aB _) (fun g72=>wv (ac rfl)) rfl<|ai rfl rfl rfl (aB _) (fun g73=>wv (ac rfl)) rfl<|bW H71 (fun k75 H76=>aI rfl rfl rfl (congrArg Value.bool k75) (fY H76 (fX (vs:=[a1]) (aK rfl k75) (aY (aK rfl k75) bU)) rfl fun v29 _ H77=>aa (aT rfl k75 rfl) rfl<|ad<|aD rfl H77 (fun k78 H79=>ag<|ab<|aa (ae rfl) rfl<|ad<|an<|av (az rfl (aE rfl)) ⟨true,rfl,H79⟩) (fun k78 H79=>au<|cQ () H79 (.cons rfl (.cons rfl (.cons rfl (.nil _)))) .slnil))) (fun k75 H76=>al rfl rfl rfl (aZ k75) rfl<|aa (ax rfl k75 rfl) rfl<|ad<|ev_no rfl rfl<|au<|cQ () H76 (.cons rfl (.cons rfl (.cons rfl (.nil _)))) .slnil))) (fun s46 _ H47=>ag<|ab<|aa (ac rfl) rfl<|ad<|aF<|ag<|ab<|aj (be H47 (fV rfl) rfl fun v32 _ H48=>aa (ap rfl rfl) rfl<|aa (ap rfl rfl) rfl<|ad<|aD rfl H48 (fun k49 H50=>ag<|ab<|aa (ae rfl) rfl<|ad<|ag<|ab<|aa (ac rfl) rfl<|aj (fY H50 (fX (vs:=[]) rfl rfl) rfl fun v36 _ H51=>aa (ae rfl) rfl<|ad<|ag<|ab<|aa (ac rfl) rfl<|aj (be H51 (gl rfl rfl) rfl fun v38 _ H52=>ad<|aD rfl H52 (fun k53 H54=>ag<|ab<|aa (ae rfl) rfl<|ad<|an<|av (az rfl (aE rfl)) ⟨false,rfl,H54⟩) (fun k53 H54=>au<|cW v36 H54 (.cons rfl (.cons rfl (.cons rfl (.nil _)))) .slnil)))) (fun k49 H50=>ag<|ab<|aj (be H50 (fV rfl) rfl fun v39 _ H55=>aa (ap rfl rfl) rfl<|aa (ap rfl rfl) rfl<|ad<|aD rfl H55 (fun k56 H57=>ag<|ab<|aa (ae rfl) rfl<|ad<|ag<|ag<|ab<|aa (ac rfl) rfl<|aj (fY H57 (fX (vs:=[]) rfl rfl) rfl fun v43 _ H58=>aa (dH rfl Tryz.underlying253 rfl) rfl<|aa (ac rfl) rfl<|ad<|aF<|bS (step:=errors_is_l3 a1 a2 K v43) (fun s59=>[(1,a1),(2,(.bool a2)),(43,(sv v43)),(44,(.int .i64 (v43.len:Int))),(45,(.int .i64 s59))]) (fun s59=>[]) H58 (.cons rfl (.cons rfl (.cons rfl (.cons rfl (.cons rfl (.nil _)))))) .slnil (fun Rec60 s59 _ H61=>ag<|ab<|aa (cA rfl rfl) rfl<|ad<|ag<|aD rfl H61 (fun k62 H63=>au<|ag<|aF<|ag<|ab<|cu H63 fun q47 e64 h65 H66=>aa (bC slc_253 (aX rfl (bm e64)) rfl h65) rfl<|aj (bf H66 sc_171 rfl (fun _=>rfl) rfl fun x48 H67=>aa (ae rfl) rfl<|ad<|ag<|ab<|aa (ac rfl) rfl<|aa (ac rfl) rfl<|aa (ac rfl) rfl<|aj (aA H67 en_174 rfl rfl fun r52 _ H68=>ad<|aD rfl H68 (fun k69 H70=>ag<|ab<|aa (ae rfl) rfl<|ad<|an<|av (az rfl (aE rfl)) ⟨true,rfl,H70⟩) (fun k69 H70=>au<|ab<|aa (bM rfl rfl) rfl<|aa (ac rfl) rfl<|ad<|cW (IntKind.i64.wrap (s59 + 1)) H70 (.cons rfl (.cons rfl (.cons rfl (.cons rfl (.cons rfl (.nil _)))))) .slnil)))) (fun k62 H63=>bD<|ag<|ab<|aa (ae rfl) rfl<|ad<|an<|av (az rfl (aE rfl)) ⟨false,rfl,H63⟩)))) (fun k56 H57=>ag<|ab<|aa (ae rfl) rfl<|ad<|ag<|ab<|aa (ae rfl) rfl<|ad<|an<|av (az rfl (aE rfl)) ⟨false,rfl,H57⟩)))))))
def wq (a0:Value) (a1:Value) (K:Bool→Hp→Prop):Hp→Prop:=hpv Tryz.prog (do eqGuard .eql 171 (.tmp 6) (.const Value.nilIface) a0 Value.nilIface; binOp .eql 171 a0 Value.nilIface:Sem Value) aG fun (v7:Bool)=>br (!v7) ( hpv Tryz.prog (do eqGuard .eql 171 (.tmp 9) (.const Value.nilIface) a1 Value.nilIface; binOp .eql 171 a1 Value.nilIface:Sem Value) aG fun (v10:Bool)=>br v10 ( hpv Tryz.prog (do eqGuard .eql 171 (.tmp 12) (.tmp 13) a0 a1; binOp .eql 171 a0 a1:Sem Value) aG fun (v14:Bool)=>K v14) ( cln Tryz.prog (callFunc ga #[a1]) encV fun (v16:Value)=>cln Tryz.prog (callMethod v16 "Comparable" #[]) aG fun (v17:Bool)=>cl Tryz.prog nC [a0,a1,(.bool v17)] aG fun r21=>K r21)) ( hpv Tryz.prog (do eqGuard .eql 171 (.tmp 12) (.tmp 13) a0 a1; binOp .eql 171 a0 a1:Sem Value) aG fun (v14:Bool)=>K v14)
set_option maxRecDepth 20000 in
theorem sim_errors_Is (a0:Value) (a1:Value) {K:Bool→Hp→Prop} {h:Hp} (H:wq a0 a1 K h):Ct Tryz.prog nD #[a0,a1] h fun v h'=>∃ r,v = aG r∧K r h':=aC [a0,a1] Tryz.func133 rfl rfl rfl fun _=>ag<|ab<|aa (ae rfl) rfl<|ad<|ag<|ag<|ab<|aa (ac rfl) rfl<|aj (be H (gl rfl rfl) rfl fun v7 _ H1=>aa (ac rfl) rfl<|ai rfl rfl rfl (aS _) (fun g2=>wv (ac rfl)) rfl<|bW H1 (fun k4 H5=>aI rfl rfl rfl (congrArg Value.bool (bL k4)) (be H5 (gl (aK rfl k4) rfl) rfl fun v10 _ H6=>aa (ax rfl (bL k4) rfl) rfl<|ad<|aD rfl H6 (fun k7 H8=>ag<|ab<|aa (ac rfl) rfl<|aa (ac rfl) rfl<|aj (be H8 (gl rfl rfl) rfl fun v14 _ H9=>aa (ae rfl) rfl<|ad<|an<|av (az rfl (aE rfl)) ⟨v14,rfl,H9⟩)) (fun k7 H8=>au<|ag<|ab<|aa (ac rfl) rfl<|aj (fY H8 (rB (vs:=[a1]) rfl) rfl fun v16 _ H10=>aj (fY H10 (fX (vs:=[]) rfl rfl) rfl fun v17 _ H11=>aa (ae rfl) rfl<|ad<|ag<|ab<|aa (ac rfl) rfl<|aa (ac rfl) rfl<|aa (ac rfl) rfl<|aj (aA H11 en_174 rfl rfl fun r21 _ H12=>aa (ae rfl) rfl<|ad<|an<|av (az rfl (aE rfl)) ⟨r21,rfl,H12⟩)))))) (fun k4 H5=>al rfl rfl rfl (bF (bp k4)) rfl<|aa (aT rfl (bp k4) rfl) rfl<|ad<|gR rfl rfl<|ag<|ab<|aa (ac rfl) rfl<|aa (ac rfl) rfl<|aj (be H5 (gl rfl rfl) rfl fun v14 _ H13=>aa (ae rfl) rfl<|ad<|an<|av (az rfl (aE rfl)) ⟨v14,rfl,H13⟩)))
end Go.Proofs.YtniiiakkdoiaiaaGreatDoor
namespace Go.Proofs.YtniiiakkdoiaiaaGreatDoor
open Go Mb
set_option linter.unusedVariables false
def sh_trap_Of (a0:Int) (K:Value→Hp→Prop):Hp→Prop:=br (a0 == 0) ( K Value.nilIface) ( nw ns (ch.C (⟨a0,(-1),(⟨0,0,0,0,0⟩:ao),Value.nilIface⟩:ch)) fun b7=>hpv Tryz.prog (Instr.makeInterface bu (.pointer (some ⟨b7,0,none⟩))) encV fun (v8:Value)=>K v8)
set_option maxRecDepth 20000 in
theorem sim_trap_Of (a0:Int) {K:Value→Hp→Prop} {h:Hp} (H:sh_trap_Of a0 K h):Ct Tryz.prog kq #[(.int .i64 a0)] h fun v h'=>∃ r,v = iy r∧K r h':=aC [(.int .i64 a0)] Tryz.func134 rfl rfl rfl fun _=>ag<|ab<|aa (ae rfl) rfl<|ad<|ag<|ag<|ab<|aa (ac rfl) rfl<|aa (cc rfl rfl) rfl<|ad<|aD rfl H (fun k1 H2=>ag<|ab<|aa (ae rfl) rfl<|ad<|an<|av (az rfl (aE rfl)) ⟨Value.nilIface,rfl,H2⟩) (fun k1 H2=>au<|ag<|ab<|aa (ac rfl) rfl<|aa (bo rfl (build_228_0_1 a0 (-1))) rfl<|aj (hU rfl rfl rfl H2 fun b7 _ H3=>aj (be H3 (gw rfl) rfl fun v8 _ H4=>aa (ae rfl) rfl<|ad<|an<|av (az rfl (aE rfl)) ⟨v8,rfl,H4⟩)))
def mz (K:(Ptr × Bool)→Hp→Prop) (b4:Nat) (s2:Bool):Hp→Prop:=br s2 ( K (none,false)) ( ld (b4,0) cP fun x13=>K (x13,true))
def uv (a0:Value) (K:(Ptr × Bool)→Hp→Prop):Hp→Prop:=nw bu [pv none] fun b4=>hpv Tryz.prog (Instr.makeInterface bN (.pointer (some ⟨b4,0,none⟩))) encV fun (v6:Value)=>cl Tryz.prog ug [a0,v6] aG fun r7=>br (!(!r7)) ( ld (b4,0) cP fun x10=>mz K b4 x10.isNone) ( mz K b4 true)
set_option maxRecDepth 20000 in
theorem sim_trap_First (a0:Value) {K:(Ptr × Bool)→Hp→Prop} {h:Hp} (H:uv a0 K h):Ct Tryz.prog jR #[a0] h fun v h'=>∃ r,v = eI r∧K r h':=aC [a0] Tryz.func202 rfl rfl rfl fun _=>ag<|ab<|aa (ae rfl) rfl<|aa (ae rfl) rfl<|ad<|ag<|ab<|aj (to_alloc zero_226 rfl rfl H fun b4 _ H1=>ad<|ag<|eG (mz K b4) (fun s2=>[(4,(.pointer (some ⟨b4,0,none⟩))),(12,(.bool s2))]) (fun s2=>[]) ( ab<|aa (ac rfl) rfl<|aj (be H1 (gw rfl) rfl fun v6 _ H7=>aj (aA H7 en_207 rfl rfl fun r7 _ H8=>aa (cw rfl) rfl<|aa (ac rfl) rfl<|bW H8 (fun k10 H11=>aI rfl rfl rfl (congrArg Value.bool (bL k10)) (bf H11 sc_226 rfl (fun _=>rfl) rfl fun x10 H12=>aI rfl rfl rfl (congrArg Value.bool (bL k10)) (aN (wv (ct Tryz.underlying226 rfl)) rfl<|aa (ax rfl (bL k10) rfl) rfl<|ad<|cQ x10.isNone H12 (.cons rfl (.cons rfl (.nil _))) .slnil))) (fun k10 H11=>al rfl rfl rfl (bF (bp k10)) rfl<|al rfl rfl rfl (bF (bp k10)) rfl<|aa (aT rfl (bp k10) rfl) rfl<|ad<|cQ true H11 (.cons rfl (.cons rfl (.nil _))) .slnil)))) (fun s2 _ H3=>aD rfl H3 (fun k4 H5=>ag<|ab<|aa (ae rfl) rfl<|aa (ae rfl) rfl<|ad<|an<|av (cf rfl (aE rfl) (aE rfl)) ⟨(none,false),rfl,H5⟩) (fun k4 H5=>au<|ag<|ab<|aj (bf H5 sc_226 rfl (fun _=>rfl) rfl fun x13 H6=>aa (ae rfl) rfl<|aa (ae rfl) rfl<|ad<|an<|av (cf rfl (aE rfl) (aE rfl)) ⟨(x13,true),rfl,H6⟩))))
def sh_trap_Code (a0:Value) (K:Int→Hp→Prop):Hp→Prop:=hpv Tryz.prog (do eqGuard .eql 171 (.tmp 5) (.const Value.nilIface) a0 Value.nilIface; binOp .eql 171 a0 Value.nilIface:Sem Value) aG fun (v6:Bool)=>br v6 ( K 0) ( cl Tryz.prog jR [a0] eI fun r9=>br r9.2 ( nn r9.1 fun q14=>ld (q14.1,q14.2 + 0) (cI .i64) fun x16=>K x16) ( K 9))
set_option maxRecDepth 20000 in
theorem sim_trap_Code (a0:Value) {K:Int→Hp→Prop} {h:Hp} (H:sh_trap_Code a0 K h):Ct Tryz.prog ud #[a0] h fun v h'=>∃ r,v = bw r∧K r h':=aC [a0] Tryz.func189 rfl rfl rfl fun _=>ag<|ab<|aa (ae rfl) rfl<|ad<|ag<|ag<|ab<|aa (ac rfl) rfl<|aj (be H (gl rfl rfl) rfl fun v6 _ H1=>ad<|aD rfl H1 (fun k2 H3=>ag<|ab<|aa (ae rfl) rfl<|ad<|an<|av (az rfl (aE rfl)) ⟨0,rfl,H3⟩) (fun k2 H3=>au<|ag<|ag<|ab<|aa (ac rfl) rfl<|aj (aA H3 en_202 rfl rfl fun r9 _ H4=>aa (ac rfl) rfl<|aa (ap rfl rfl) rfl<|aa (ap rfl rfl) rfl<|aa (ae rfl) rfl<|aa (ae rfl) rfl<|ad<|ag<|ab<|aa (ac rfl) rfl<|ad<|aD rfl H4 (fun k5 H6=>ag<|ab<|aa (ac rfl) rfl<|bP H6 fun q14 e7 H8=>aa (aU (aX rfl (ay e7))) rfl<|aa (am vp rfl) rfl<|aj (bf H8 oq rfl (fun _=>rfl) rfl fun x16 H9=>aa (ae rfl) rfl<|ad<|an<|av (az rfl (aE rfl)) ⟨x16,rfl,H9⟩)) (fun k5 H6=>au<|ag<|ab<|aa (ae rfl) rfl<|ad<|an<|av (az rfl (aE rfl)) ⟨9,rfl,H6⟩))))
def sh_trap_In (a0:Int) (a1:ao) (a2:Value) (K:Value→Hp→Prop):Hp→Prop:=hpv Tryz.prog (do eqGuard .eql 171 (.tmp 7) (.const Value.nilIface) a2 Value.nilIface; binOp .eql 171 a2 Value.nilIface:Sem Value) aG fun (v8:Bool)=>br v8 ( K Value.nilIface) ( cl Tryz.prog ud [a2] bw fun r10=>hpv Tryz.prog (Instr.build ns #[(0,(.int .i64 r10)),(1,(.int .i64 a0)),(2,(.agg (ao.C a1).toArray)),(3,a2)]) R_trap_Trap fun (v14:ch)=>nw ns (ch.C v14) fun b15=>hpv Tryz.prog (Instr.makeInterface bu (.pointer (some ⟨b15,0,none⟩))) encV fun (v16:Value)=>K v16)
set_option maxRecDepth 20000 in
theorem sim_trap_In (a0:Int) (a1:ao) (a2:Value) {K:Value→Hp→Prop} {h:Hp} (H:sh_trap_In a0 a1 a2 K h):Ct Tryz.prog n_trap_In #[(.int .i64 a0),(.agg (ao.C a1).toArray),a2] h fun v h'=>∃ r,v = iy r∧K r h':=aC [(.int .i64 a0),(.agg (ao.C a1).toArray),a2] Tryz.func168 rfl rfl rfl fun _=>ag<|ab<|aj (cH (l:=(ao.C a1)) rfl rfl rfl fun b4=>aa (ae rfl) rfl<|ad<|ag<|ag<|ab<|aa (ac rfl) rfl<|aj (be H (gl rfl rfl) rfl fun v8 _ H1=>ad<|aD rfl H1 (fun k2 H3=>ag<|ab<|aa (ae rfl) rfl<|ad<|an<|av (az rfl (aE rfl)) ⟨Value.nilIface,rfl,H3⟩) (fun k2 H3=>au<|ag<|bE (n:=9) [bx b4 27 (ao.C a1)] cy rfl (.cons_cons _ .slnil)<|ah (i:=0) (fun _ _ _ _=>id) rfl (by kernel_rfl) rfl (ve (ac rfl))<|ah (i:=2) (fun _ _ _ _=>id) rfl (by kernel_rfl) rfl (ve (ac rfl))<|ah (i:=3) (fun _ _ _ _=>id) rfl (by kernel_rfl) rfl (eu (k:=0) eN rfl rfl rfl rfl)<|ah (i:=4) (fun _ _ _ _=>id) rfl (by kernel_rfl) rfl (ve (ac rfl))<|bg (i:=1) (by kernel_rfl) (aJ rfl rfl (aA H3 en_189 rfl rfl fun r10 _ H4=>⟨(.cons_cons _ .slnil),bg (i:=5) (by kernel_rfl) (aJ rfl rfl (be H4 (x_build (vs:=[(.int .i64 r10),(.int .i64 a0),(.agg (ao.C a1).toArray),a2]) rfl) rfl fun v14 _ H5=>⟨(.cons_cons _ .slnil),bg (i:=6) (by kernel_rfl) (aJ rfl rfl (hU rfl rfl rfl H5 fun b15 _ H6=>⟨(.cons_cons _ .slnil),bg (i:=7) (by kernel_rfl) (aJ rfl rfl (be H6 (gw rfl) rfl fun v16 _ H7=>⟨(.cons_cons _ .slnil),ah (i:=8) (fun _ _ _ _=>id) rfl (by kernel_rfl) rfl (ve (ae rfl))<|bd (by kernel_rfl)<|an<|av (az rfl (aE rfl)) ⟨v16,rfl,H7⟩⟩))⟩))⟩))⟩)))))
def mA (K:Int→Hp→Prop) (Rec3:(Int × Ptr × Bool)→Hp→Prop) (s2:Int × Ptr × Bool):Hp→Prop:=br s2.2.2 ( nn s2.2.1 fun q14=>ld (q14.1,q14.2 + 7) cV fun x16=>cl Tryz.prog jR [x16] eI fun r17=>Rec3 ((IntKind.i64.wrap (s2.1 + 1)),r17.1,r17.2)) ( K s2.1)
def sh_trap_Depth (a0:Value) (K:Int→Hp→Prop):Hp→Prop:=cl Tryz.prog jR [a0] eI fun r8=>Lp (mA K) (0,r8.1,r8.2)
set_option maxRecDepth 20000 in
theorem sim_trap_Depth (a0:Value) {K:Int→Hp→Prop} {h:Hp} (H:sh_trap_Depth a0 K h):Ct Tryz.prog wA #[a0] h fun v h'=>∃ r,v = dW r∧K r h':=aC [a0] Tryz.func208 rfl rfl rfl fun _=>ag<|ab<|aa (ae rfl) rfl<|ad<|ag<|ab<|aa (ae rfl) rfl<|ad<|ag<|ag<|ab<|aa (ac rfl) rfl<|aj (aA H en_202 rfl rfl fun r8 _ H1=>aa (ac rfl) rfl<|aa (ap rfl rfl) rfl<|aa (ap rfl rfl) rfl<|aa (ae rfl) rfl<|aa (ae rfl) rfl<|ad<|aF<|bS (step:=mA K) (fun s2=>[(3,(.int .i64 s2.1)),(4,(pv s2.2.1)),(5,(.bool s2.2.2))]) (fun s2=>[]) H1 (.cons rfl (.cons rfl (.cons rfl (.nil _)))) .slnil (fun Rec3 s2 _ H4=>ag<|ag<|ab<|aa (ac rfl) rfl<|ad<|aD rfl H4 (fun k5 H6=>au<|ag<|aF<|ab<|aa (ac rfl) rfl<|aa (bM rfl rfl) rfl<|aa (ae rfl) rfl<|ad<|ab<|aa (ac rfl) rfl<|bP H6 fun q14 e7 H8=>aa (aU (aX rfl (ay e7))) rfl<|aa (am fld_228_3 rfl) rfl<|aj (bf H8 sc_171 rfl (fun _=>rfl) rfl fun x16 H9=>aj (aA H9 en_202 rfl rfl fun r17 _ H10=>aa (ac rfl) rfl<|aa (ap rfl rfl) rfl<|aa (ap rfl rfl) rfl<|aa (ae rfl) rfl<|aa (ae rfl) rfl<|ad<|cW ((IntKind.i64.wrap (s2.1 + 1)),r17.1,r17.2) H10 (.cons rfl (.cons rfl (.cons rfl (.nil _)))) .slnil))) (fun k5 H6=>bD<|ag<|ab<|aa (ac rfl) rfl<|aa (ae rfl) rfl<|ad<|an<|av (az rfl (aE rfl)) ⟨s2.1,rfl,H6⟩)))
def mX (a0:Ptr) (K:ByteArray→Hp→Prop):Hp→Prop:=br a0.isNone ( K (⟨#[]⟩:ByteArray)) ( nn a0 fun q7=>ld (q7.1,q7.2 + 0) (cI .i64) fun x9=>cl Tryz.prog sR [(.int .i64 x9)] dV fun r10=>hpv Tryz.prog (do eqGuard .add 9 (.const (.string (⟨#[116,114,97,112,32]⟩:ByteArray))) (.tmp 10) (.string (⟨#[116,114,97,112,32]⟩:ByteArray)) (.string r10); binOp .add 9 (.string (⟨#[116,114,97,112,32]⟩:ByteArray)) (.string r10):Sem Value) dV fun (v11:ByteArray)=>ld (q7.1,q7.2 + 7) cV fun x15=>hpv Tryz.prog (do eqGuard .neq 171 (.tmp 15) (.const Value.nilIface) x15 Value.nilIface; binOp .neq 171 x15 Value.nilIface:Sem Value) aG fun (v16:Bool)=>br v16 ( ld (q7.1,q7.2 + 7) cV fun x21=>cln Tryz.prog (callMethod x21 "Error" #[]) dV fun (v22:ByteArray)=>hpv Tryz.prog (do eqGuard .add 9 (.const (.string (⟨#[58,32]⟩:ByteArray))) (.tmp 22) (.string (⟨#[58,32]⟩:ByteArray)) (.string v22); binOp .add 9 (.string (⟨#[58,32]⟩:ByteArray)) (.string v22):Sem Value) dV fun (v23:ByteArray)=>hpv Tryz.prog (do eqGuard .add 9 (.tmp 17) (.tmp 23) (.string v11) (.string v23); binOp .add 9 (.string v11) (.string v23):Sem Value) dV fun (v24:ByteArray)=>K v24) ( K v11))
set_option maxRecDepth 20000 in
theorem re (a0:Ptr) {K:ByteArray→Hp→Prop} {h:Hp} (H:mX a0 K h):Ct Tryz.prog iR #[(pv a0)] h fun v h'=>∃ r,v = dV r∧K r h':=aC [(pv a0)] Tryz.func233 rfl rfl rfl fun _=>ag<|ab<|aa (ae rfl) rfl<|ad<|ag<|ag<|ab<|aa (ac rfl) rfl<|aa (ct Tryz.underlying226 rfl) rfl<|ad<|aD rfl H (fun k1 H2=>ag<|ab<|aa (ae rfl) rfl<|ad<|an<|av (az rfl (aE rfl)) ⟨(⟨#[]⟩:ByteArray),rfl,H2⟩) (fun k1 H2=>au<|ag<|ab<|aa (ac rfl) rfl<|bP H2 fun q7 e3 H4=>aa (aU (aX rfl (ay e3))) rfl<|aa (am vp rfl) rfl<|aj (bf H4 oq rfl (fun _=>rfl) rfl fun x9 H5=>aj (aA H5 en_236 rfl rfl fun r10 _ H6=>aj (be H6 (gl rfl rfl) rfl fun v11 _ H7=>aa (ae rfl) rfl<|ad<|ag<|ag<|ab<|aa (ac (aX rfl (ay e3))) rfl<|aa (aU rfl) rfl<|aa (am fld_228_3 rfl) rfl<|aj (bf H7 sc_171 rfl (fun _=>rfl) rfl fun x15 H8=>aj (be H8 (gl rfl rfl) rfl fun v16 _ H9=>ad<|aD rfl H9 (fun k10 H11=>ab<|aa (ac rfl) rfl<|aa (ac (aX rfl (ay e3))) rfl<|aa (aU rfl) rfl<|aa (am fld_228_3 rfl) rfl<|aj (bf H11 sc_171 rfl (fun _=>rfl) rfl fun x21 H12=>aj (fY H12 (fX (vs:=[]) rfl rfl) rfl fun v22 _ H13=>aj (be H13 (gl rfl rfl) rfl fun v23 _ H14=>aj (be H14 (gl rfl rfl) rfl fun v24 _ H15=>aa (ae rfl) rfl<|ad<|ag<|ab<|aa (ac rfl) rfl<|aa (ae rfl) rfl<|ad<|an<|av (az rfl (aE rfl)) ⟨v24,rfl,H15⟩))))) (fun k10 H11=>au<|ag<|ab<|aa (ac rfl) rfl<|aa (ae rfl) rfl<|ad<|an<|av (az rfl (aE rfl)) ⟨v11,rfl,H11⟩)))))))
def sh_trap_Trap_Is (a0:Ptr) (a1:Value) (K:Bool→Hp→Prop):Hp→Prop:=hpv Tryz.prog (Instr.typeAssert a1 gm bu true) eI fun (v9:Ptr × Bool)=>br v9.2 ( br (!a0.isNone) ( br (!v9.1.isNone) ( nn a0 fun q23=>nn v9.1 fun q27=>ld (q23.1,q23.2 + 0) (cI .i64) fun x25=>ld (q27.1,q27.2 + 0) (cI .i64) fun x29=>K (x25 == x29)) ( K false)) ( K false)) ( K false)
set_option maxRecDepth 20000 in
theorem sim_trap_Trap_Is (a0:Ptr) (a1:Value) {K:Bool→Hp→Prop} {h:Hp} (H:sh_trap_Trap_Is a0 a1 K h):Ct Tryz.prog sP #[(pv a0),a1] h fun v h'=>∃ r,v = aG r∧K r h':=aC [(pv a0),a1] Tryz.func234 rfl rfl rfl fun _=>ag<|ab<|aa (ae rfl) rfl<|ad<|ag<|ab<|aa (ac rfl) rfl<|aj (be H (fV rfl) rfl fun v9 _ H1=>aa (ac rfl) rfl<|aa (ap rfl rfl) rfl<|aa (ap rfl rfl) rfl<|aa (ae rfl) rfl<|aa (ae rfl) rfl<|ad<|ag<|bE (n:=21) [] cy rfl .slnil<|ah (i:=0) (fun _ _ _ _=>id) rfl (by kernel_rfl) rfl (ve (ac rfl))<|ah (i:=1) (fun _ _ _ _=>id) rfl (by kernel_rfl) rfl (ve (ac rfl))<|jB H1 (fun k2 H3=>bi (i:=2) (fun _ _ _ _=>id) rfl (by kernel_rfl) rfl rfl rfl rfl (congrArg Value.bool k2) (ve (ac rfl))<|bi (i:=3) (fun _ _ _ _=>id) rfl (by kernel_rfl) rfl rfl rfl rfl (congrArg Value.bool k2) (ve (v_pneT Tryz.underlying226 rfl))<|ah (i:=4) (fun _ _ _ _=>id) rfl (by kernel_rfl) rfl (ve (aT rfl k2 rfl))<|ah (i:=5) (fun _ _ _ _=>id) rfl (by kernel_rfl) rfl (ve (ac rfl))<|jB H3 (fun k4 H5=>bi (i:=6) (fun _ _ _ _=>id) rfl (by kernel_rfl) rfl rfl rfl rfl (congrArg Value.bool k4) (ve (ac rfl))<|bi (i:=7) (fun _ _ _ _=>id) rfl (by kernel_rfl) rfl rfl rfl rfl (congrArg Value.bool k4) (ve (v_pneT Tryz.underlying226 rfl))<|ah (i:=8) (fun _ _ _ _=>id) rfl (by kernel_rfl) rfl (ve (aT rfl k4 rfl))<|ah (i:=9) (fun _ _ _ _=>id) rfl (by kernel_rfl) rfl (ve (ac rfl))<|jB H5 (fun k6 H7=>bi (i:=10) (fun _ _ _ _=>id) rfl (by kernel_rfl) rfl rfl rfl rfl (congrArg Value.bool k6) (ve (ac rfl))<|bi (i:=14) (fun _ _ _ _=>id) rfl (by kernel_rfl) rfl rfl rfl rfl (congrArg Value.bool k6) (ve (ac rfl))<|gQ H7 fun q23 e8 H9=>bi (i:=11) (fun _ _ _ _=>id) rfl (by kernel_rfl) rfl rfl rfl rfl (congrArg Value.bool k6) (ve (aU (aX rfl (ay e8))))<|bi (i:=12) (fun _ _ _ _=>id) rfl (by kernel_rfl) rfl rfl rfl rfl (congrArg Value.bool k6) (ve (am vp rfl))<|gQ H9 fun q27 e10 H11=>bi (i:=15) (fun _ _ _ _=>id) rfl (by kernel_rfl) rfl rfl rfl rfl (congrArg Value.bool k6) (ve (aU (aX rfl (ay e10))))<|bi (i:=16) (fun _ _ _ _=>id) rfl (by kernel_rfl) rfl rfl rfl rfl (congrArg Value.bool k6) (ve (am vp rfl))<|iv (i:=13) (fun _ _ _ _=>id) H11 rfl (by kernel_rfl) rfl rfl rfl (congrArg Value.bool k6) oq rfl (fun _=>rfl) rfl fun x25 H12=>iv (i:=17) (fun _ _ _ _=>id) H12 rfl (by kernel_rfl) rfl rfl rfl (congrArg Value.bool k6) oq rfl (fun _=>rfl) rfl fun x29 H13=>bi (i:=18) (fun _ _ _ _=>id) rfl (by kernel_rfl) rfl rfl rfl rfl (congrArg Value.bool k6) (ve (cc rfl rfl))<|ah (i:=19) (fun _ _ _ _=>id) rfl (by kernel_rfl) rfl (ve (aT rfl k6 rfl))<|ah (i:=20) (fun _ _ _ _=>id) rfl (by kernel_rfl) rfl (ve (ae rfl))<|bd (by kernel_rfl)<|an<|av (az rfl (aE rfl)) ⟨(x25 == x29),rfl,H13⟩) (fun k6 H7=>aw (i:=10) (fun _ _ _ _=>id) rfl (by kernel_rfl) rfl rfl rfl rfl (aZ k6)<|aw (i:=11) (fun _ _ _ _=>id) rfl (by kernel_rfl) rfl rfl rfl rfl (aZ k6)<|aw (i:=12) (fun _ _ _ _=>id) rfl (by kernel_rfl) rfl rfl rfl rfl (aZ k6)<|aw (i:=13) (fun _ _ _ _=>id) rfl (by kernel_rfl) rfl rfl rfl rfl (aZ k6)<|aw (i:=14) (fun _ _ _ _=>id) rfl (by kernel_rfl) rfl rfl rfl rfl (aZ k6)<|aw (i:=15) (fun _ _ _ _=>id) rfl (by kernel_rfl) rfl rfl rfl rfl (aZ k6)<|aw (i:=16) (fun _ _ _ _=>id) rfl (by kernel_rfl) rfl rfl rfl rfl (aZ k6)<|aw (i:=17) (fun _ _ _ _=>id) rfl (by kernel_rfl) rfl rfl rfl rfl (aZ k6)<|aw (i:=18) (fun _ _ _ _=>id) rfl (by kernel_rfl) rfl rfl rfl rfl (aZ k6)<|ah (i:=19) (fun _ _ _ _=>id) rfl (by kernel_rfl) rfl (ve (ax rfl k6 rfl))<|ah (i:=20) (fun _ _ _ _=>id) rfl (by kernel_rfl) rfl (ve (ae rfl))<|bd (by kernel_rfl)<|an<|av (az rfl (aE rfl)) ⟨false,rfl,H7⟩)) (fun k4 H5=>aw (i:=6) (fun _ _ _ _=>id) rfl (by kernel_rfl) rfl rfl rfl rfl (aZ k4)<|aw (i:=7) (fun _ _ _ _=>id) rfl (by kernel_rfl) rfl rfl rfl rfl (aZ k4)<|ah (i:=8) (fun _ _ _ _=>id) rfl (by kernel_rfl) rfl (ve (ax rfl k4 rfl))<|ah (i:=9) (fun _ _ _ _=>id) rfl (by kernel_rfl) rfl (ve (ac rfl))<|aw (i:=10) (fun _ _ _ _=>id) rfl (by kernel_rfl) rfl rfl rfl rfl rfl<|aw (i:=11) (fun _ _ _ _=>id) rfl (by kernel_rfl) rfl rfl rfl rfl rfl<|aw (i:=12) (fun _ _ _ _=>id) rfl (by kernel_rfl) rfl rfl rfl rfl rfl<|aw (i:=13) (fun _ _ _ _=>id) rfl (by kernel_rfl) rfl rfl rfl rfl rfl<|aw (i:=14) (fun _ _ _ _=>id) rfl (by kernel_rfl) rfl rfl rfl rfl rfl<|aw (i:=15) (fun _ _ _ _=>id) rfl (by kernel_rfl) rfl rfl rfl rfl rfl<|aw (i:=16) (fun _ _ _ _=>id) rfl (by kernel_rfl) rfl rfl rfl rfl rfl<|aw (i:=17) (fun _ _ _ _=>id) rfl (by kernel_rfl) rfl rfl rfl rfl rfl<|aw (i:=18) (fun _ _ _ _=>id) rfl (by kernel_rfl) rfl rfl rfl rfl rfl<|ah (i:=19) (fun _ _ _ _=>id) rfl (by kernel_rfl) rfl (ve (ax rfl rfl rfl))<|ah (i:=20) (fun _ _ _ _=>id) rfl (by kernel_rfl) rfl (ve (ae rfl))<|bd (by kernel_rfl)<|an<|av (az rfl (aE rfl)) ⟨false,rfl,H5⟩)) (fun k2 H3=>aw (i:=2) (fun _ _ _ _=>id) rfl (by kernel_rfl) rfl rfl rfl rfl (aZ k2)<|aw (i:=3) (fun _ _ _ _=>id) rfl (by kernel_rfl) rfl rfl rfl rfl (aZ k2)<|ah (i:=4) (fun _ _ _ _=>id) rfl (by kernel_rfl) rfl (ve (ax rfl k2 rfl))<|ah (i:=5) (fun _ _ _ _=>id) rfl (by kernel_rfl) rfl (ve (ac rfl))<|aw (i:=6) (fun _ _ _ _=>id) rfl (by kernel_rfl) rfl rfl rfl rfl rfl<|aw (i:=7) (fun _ _ _ _=>id) rfl (by kernel_rfl) rfl rfl rfl rfl rfl<|ah (i:=8) (fun _ _ _ _=>id) rfl (by kernel_rfl) rfl (ve (ax rfl rfl rfl))<|ah (i:=9) (fun _ _ _ _=>id) rfl (by kernel_rfl) rfl (ve (ac rfl))<|aw (i:=10) (fun _ _ _ _=>id) rfl (by kernel_rfl) rfl rfl rfl rfl rfl<|aw (i:=11) (fun _ _ _ _=>id) rfl (by kernel_rfl) rfl rfl rfl rfl rfl<|aw (i:=12) (fun _ _ _ _=>id) rfl (by kernel_rfl) rfl rfl rfl rfl rfl<|aw (i:=13) (fun _ _ _ _=>id) rfl (by kernel_rfl) rfl rfl rfl rfl rfl<|aw (i:=14) (fun _ _ _ _=>id) rfl (by kernel_rfl) rfl rfl rfl rfl rfl<|aw (i:=15) (fun _ _ _ _=>id) rfl (by kernel_rfl) rfl rfl rfl rfl rfl<|aw (i:=16) (fun _ _ _ _=>id) rfl (by kernel_rfl) rfl rfl rfl rfl rfl<|aw (i:=17) (fun _ _ _ _=>id) rfl (by kernel_rfl) rfl rfl rfl rfl rfl<|aw (i:=18) (fun _ _ _ _=>id) rfl (by kernel_rfl) rfl rfl rfl rfl rfl<|ah (i:=19) (fun _ _ _ _=>id) rfl (by kernel_rfl) rfl (ve (ax rfl rfl rfl))<|ah (i:=20) (fun _ _ _ _=>id) rfl (by kernel_rfl) rfl (ve (ae rfl))<|bd (by kernel_rfl)<|an<|av (az rfl (aE rfl)) ⟨false,rfl,H3⟩))
def rf (a0:Ptr) (K:Value→Hp→Prop):Hp→Prop:=br a0.isNone ( K Value.nilIface) ( nn a0 fun q6=>ld (q6.1,q6.2 + 7) cV fun x8=>K x8)
set_option maxRecDepth 20000 in
theorem sim_trap_Trap_Unwrap (a0:Ptr) {K:Value→Hp→Prop} {h:Hp} (H:rf a0 K h):Ct Tryz.prog mZ #[(pv a0)] h fun v h'=>∃ r,v = iy r∧K r h':=aC [(pv a0)] Tryz.func235 rfl rfl rfl fun _=>ag<|ab<|aa (ae rfl) rfl<|ad<|ag<|ag<|ab<|aa (ac rfl) rfl<|aa (ct Tryz.underlying226 rfl) rfl<|ad<|aD rfl H (fun k1 H2=>ag<|ab<|aa (ae rfl) rfl<|ad<|an<|av (az rfl (aE rfl)) ⟨Value.nilIface,rfl,H2⟩) (fun k1 H2=>au<|ag<|ab<|aa (ac rfl) rfl<|bP H2 fun q6 e3 H4=>aa (aU (aX rfl (ay e3))) rfl<|aa (am fld_228_3 rfl) rfl<|aj (bf H4 sc_171 rfl (fun _=>rfl) rfl fun x8 H5=>aa (ae rfl) rfl<|ad<|an<|av (az rfl (aE rfl)) ⟨x8,rfl,H5⟩))
end Go.Proofs.YtniiiakkdoiaiaaGreatDoor
namespace Go.Proofs.YtniiiakkdoiaiaaGreatDoor
open Go Mb
variable {ET:Nat} {EF:Nat × Nat}
abbrev dC (b:Nat):Value:=.iface bu (.pointer (some ⟨b,0,none⟩))
theorem g0:Tryz.prog.globals.size = 4:=by kernel_rfl
theorem g1:typeHandle Tryz.prog bu = pv (some (4,bu)):=by kernel_rfl
theorem g2:(Tryz.prog.globals[0]?).map (·.type) = some 223:=by kernel_rfl
theorem oneErr:((List.range 325).filter fun t=>Tryz.prog.rowNamed t [101,114,114,111,114]) = [171]:=by kernel_rfl
theorem g4:Tryz.prog.types.size = 325:=by kernel_rfl
abbrev rtV (T:Nat):Value:=.iface t_reflectlite_rtype (.agg #[pv (some (4,T))])
abbrev vl (T c f:Nat):aV:=⟨some (4,T),some (c,0),f⟩
abbrev vlV (T c f:Nat):Value:=.agg (aV.C (vl T c f)).toArray
section
variable (b:Nat) (K:Next→Hp→Prop) (h:Hp)
theorem x7:hp Tryz.prog (callFunc ga #[dC b]) K h = K (.value (rtV bu)) h:=by kernel_rfl
theorem x8:hp Tryz.prog (callFunc cZ #[.iface bN (.pointer (some ⟨b,0,none⟩))]) K h = (true = true∧∀ e,h e = none→K (.value (vlV bN e 150)) (eQ h e (.cells #[pv (some (b,0))] bN (0,0)))):=by kernel_rfl
theorem x8':hp Tryz.prog (callFunc cZ #[dC b]) K h = (true = true∧∀ e,h e = none→K (.value (vlV bu e 150)) (eQ h e (.cells #[pv (some (b,0))] bu (0,0)))):=by kernel_rfl
theorem x10:hp Tryz.prog (callMethod (rtV bN) "Kind" #[]) K h = K (.value (.int .u8 22)) h:=by kernel_rfl
theorem x11:hp Tryz.prog (callMethod (rtV bN) "Elem" #[]) K h = K (.value (rtV bu)) h:=by kernel_rfl
theorem x12:hp Tryz.prog (callMethod (rtV bu) "Kind" #[]) K h = K (.value (.int .u8 22)) h:=by kernel_rfl
theorem x13:hp Tryz.prog (callMethod (rtV bu) "Comparable" #[]) K h = K (.value (.bool true)) h:=by kernel_rfl
theorem x14:hp Tryz.prog (callMethod (rtV bu) "AssignableTo" #[rtV bu]) K h = K (.value (.bool true)) h:=by kernel_rfl
theorem x15 (c:Nat):hp Tryz.prog (callFunc iz #[vlV bN c 150]) K h = K (.value (rtV bN)) h:=by kernel_rfl
theorem x16 (c:Nat):hp Tryz.prog (callFunc eT #[vlV bN c 150]) K h =
  hp Tryz.prog (do let r ← Extern.ReflectliteValue.isNil bN ⟨c,0,none⟩ 150 22; pure (.value r)) K h:=by kernel_rfl
theorem x17:hp Tryz.prog (callMethod (rtV bu) "Implements" #[rtV gm]) K h = K (.value (.bool true)) h:=by kernel_rfl
theorem x18 (c:Nat):hp Tryz.prog (callFunc fj #[vlV bN c 150]) K h =
  hp Tryz.prog (do let r ← Extern.ReflectliteValue.elem bN ⟨c,0,none⟩ 150 22; pure (.value r)) K h:=by kernel_rfl
theorem x19 (c d:Nat):hp Tryz.prog (callFunc fw #[vlV bu c 406,vlV bu d 150]) K h =
  hp Tryz.prog (do let r ← (do let v ← loadVar bu ⟨d,0,none⟩; storeVar bu ⟨c,0,none⟩ v; pure (Value.tuple #[])); pure (.value r)) K h:=by kernel_rfl
theorem y1 (c:Nat) (K:Value→Hp→Prop):hp Tryz.prog (loadVar bN ⟨c,0,none⟩) K h = ∃ v,nI h ⟨c,0,none⟩ = some v∧K v h:=by kernel_rfl
theorem y2 (c:Nat) (K:Value→Hp→Prop):hp Tryz.prog (loadVar bu ⟨c,0,none⟩) K h = ∃ v,nI h ⟨c,0,none⟩ = some v∧K v h:=by kernel_rfl
theorem y3 (b:Nat) (K:Value→Hp→Prop):hp Tryz.prog (Extern.ReflectliteValue.mk bu ⟨b,0,none⟩ Extern.ReflectliteValue.flagAddr) K h = K (vlV bu b 406) h:=by kernel_rfl
theorem y4 (K:Option TypeId→Hp→Prop):hp Tryz.prog (Extern.Rtype.elem? bN) K h = K (some bu) h:=by kernel_rfl
theorem y5 (b c:Nat) (K:Unit→Hp→Prop):hp Tryz.prog (storeVar bu ⟨c,0,none⟩ (.pointer (some ⟨b,0,none⟩))) K h = hp Tryz.prog (storeCells ⟨c,0,none⟩ [.pointer (some ⟨b,0,none⟩)]) K h:=by kernel_rfl
theorem y6 (K:Value→Hp→Prop) {a b n m:Nat}:hp Tryz.prog (do eqGuard .eql 171 (.tmp n) (.tmp m) (dC a) (dC b); binOp .eql 171 (dC a) (dC b):Sem Value) K h = hp Tryz.prog (do let r ← sameAddr ⟨a,0,none⟩ ⟨b,0,none⟩; pure (.bool r)) K h:=by kernel_rfl
theorem x25 (K:Bool→Hp→Prop) {a b:Nat} {ca cb:List Value} {Ta Tb:Nat} (ha:h a = some (.cells ca.toArray Ta (0,0))) (hb:h b = some (.cells cb.toArray Tb (0,0))) (H:K (a == b) h):hp Tryz.prog (sameAddr ⟨a,0,none⟩ ⟨b,0,none⟩) K h:=by
  unfold sameAddr
  rcases Decidable.em (a = b) with e | e
  · subst e
    rw [if_pos (by simp)]
    have H':K true h:=by simpa using H
    simpa [hp_pure] using H'
  · rw [if_neg (by simpa using e)]
    have fa:∀ (K:Bool→Hp→Prop) (o:Nat),hp Tryz.prog (frozen ⟨a,o,none⟩) K h↔K false h:=fun K o =>
      ⟨fun ⟨o',h1,h2⟩=>by rw [ha] at h1; cases h1; simpa [hp,ua] using h2,fun h2=>⟨_,ha,by simpa [hp,ua] using h2⟩⟩
    have fb:∀ (K:Bool→Hp→Prop) (o:Nat),hp Tryz.prog (frozen ⟨b,o,none⟩) K h↔K false h:=fun K o =>
      ⟨fun ⟨o',h1,h2⟩=>by rw [hb] at h1; cases h1; simpa [hp,ua] using h2,fun h2=>⟨_,hb,by simpa [hp,ua] using h2⟩⟩
    have sa:∀ (K:Option (TypeId × Nat)→Hp→Prop),hp Tryz.prog (shape a) K h↔K (some (Ta,ca.length)) h:=fun K =>
      ⟨fun ⟨o',h1,h2⟩=>by rw [ha] at h1; cases h1; simpa [hp,oshape] using h2,fun h2=>⟨_,ha,by simpa [hp,oshape] using h2⟩⟩
    have sb:∀ (K:Option (TypeId × Nat)→Hp→Prop),hp Tryz.prog (shape b) K h↔K (some (Tb,cb.length)) h:=fun K =>
      ⟨fun ⟨o',h1,h2⟩=>by rw [hb] at h1; cases h1; simpa [hp,oshape] using h2,fun h2=>⟨_,hb,by simpa [hp,oshape] using h2⟩⟩
    have eb:(a == b) = false:=by simpa using e
    rw [eb] at H
    simp [cX,fa,fb,sa,sb,noView,viewAt,mayBeOne,stringish,hp_pure,H]
end
section
variable {P:Program} {τ:Type} {enc:τ→Value} {K:τ→Hp→Prop} {h:Hp}
theorem fy {m:Sem Value} (r:τ) (e:∀ (K:Value→Hp→Prop) h,hp P m K h = K (enc r) h) (k:K r h):hpv P m enc K h:=⟨by rw [e]; exact ⟨r,rfl,k⟩⟩
theorem ti {m:Sem Next} (r:τ) (e:∀ (K:Next→Hp→Prop) h,hp P m K h = K (.value (enc r)) h) (k:K r h):cln P m enc K h:=⟨by rw [e]; exact .inl ⟨r,rfl,k⟩⟩
theorem cln_en {m:Sem Next} {f:FuncId} {vs:List Value} (e:∀ (K:Next→Hp→Prop) h,hp P m K h = K (.enter f vs.toArray) h) (k:cl P f vs enc K h):cln P m enc K h:=⟨by rw [e]; exact .inr ⟨f,_,rfl,k⟩⟩
end
abbrev etB (ET:Nat) (EF:Nat × Nat):As:=obj 0 (.cells #[rtV gm] ET EF)
abbrev trB (b:Nat) (t:ch):As:=blk b ns (ch.C t)
theorem en_0 (b n:Nat) (K:Value→Hp→Prop) (h:Hp):hp Tryz.prog (do eqGuard .eql 171 (.tmp n) (.const Value.nilIface) (dC b) Value.nilIface; binOp .eql 171 (dC b) Value.nilIface:Sem Value) K h = K (.bool false) h:=by kernel_rfl
theorem en_00 (n:Nat) (K:Value→Hp→Prop) (h:Hp):hp Tryz.prog (do eqGuard .eql 171 (.tmp n) (.const Value.nilIface) Value.nilIface Value.nilIface; binOp .eql 171 Value.nilIface Value.nilIface:Sem Value) K h = K (.bool true) h:=by kernel_rfl
theorem en_1 (b n:Nat) (K:Value→Hp→Prop) (h:Hp):hp Tryz.prog (do eqGuard .eql 20 (.tmp n) (.const Value.nilIface) (.iface bN (.pointer (some ⟨b,0,none⟩))) Value.nilIface; binOp .eql 20 (.iface bN (.pointer (some ⟨b,0,none⟩))) Value.nilIface:Sem Value) K h = K (.bool false) h:=by kernel_rfl
theorem sp_As_nil (v:Value):Sp Tryz.prog ug [Value.nilIface,v] aG [] (fun r=>pa_ (r = false) []):=by
  intro h st
  refine sim_errors_As _ _ ?_
  unfold wt
  exact fy true (en_00 _) (df rfl (bh rfl st))
section
variable {h:Hp} {b c d:Nat}
theorem c22 {K:Bool→Hp→Prop} (e:nI h ⟨c,0,none⟩ = some (.pointer (some ⟨b,0,none⟩))) (H:K false h):cln Tryz.prog (callFunc eT #[vlV bN c 150]) aG K h:=by
  constructor
  rw [x16,cX]
  unfold Extern.ReflectliteValue.isNil
  rw [if_neg (by decide)]
  rw [cX,y1]; exact ⟨_,e,.inl ⟨false,rfl,H⟩⟩
theorem c23 {K:aV→Hp→Prop} (e:nI h ⟨c,0,none⟩ = some (.pointer (some ⟨b,0,none⟩))) (H:K (vl bu b 406) h):cln Tryz.prog (callFunc fj #[vlV bN c 150]) fC K h:=by
  constructor
  rw [x18,cX]
  unfold Extern.ReflectliteValue.elem
  rw [if_neg (by decide),cX,y1]
  refine ⟨_,e,?_⟩
  rw [cX,y4]
  show hp _ (Extern.ReflectliteValue.mk _ _ _) _ h
  rw [y3]; exact .inl ⟨_,rfl,H⟩
theorem c24 {K:Unit→Hp→Prop} (e:nI h ⟨d,0,none⟩ = some (.pointer (some ⟨b,0,none⟩))) (H:hp Tryz.prog (storeCells ⟨c,0,none⟩ [.pointer (some ⟨b,0,none⟩)]) (fun _=>K ()) h):cln Tryz.prog (callFunc fw #[vlV bu c 406,vlV bu d 150]) R_ K h:=by
  constructor
  rw [x19,cX,cX,y2]; refine ⟨_,e,?_⟩
  rw [cX,y5]; exact hp_mono _ (fun _ _ k=>.inl ⟨(),rfl,k⟩) _ H
theorem c8 {K:aV→Hp→Prop} (H:∀ e,h e = none→K (vl bN e 150) (eQ h e (.cells #[pv (some (b,0))] bN (0,0)))):cln Tryz.prog (callFunc cZ #[.iface bN (.pointer (some ⟨b,0,none⟩))]) fC K h:=by
  constructor
  rw [x8]
  exact ⟨rfl,fun e he=>.inl ⟨_,rfl,H e he⟩⟩
theorem c8' {K:aV→Hp→Prop} (H:∀ e,h e = none→K (vl bu e 150) (eQ h e (.cells #[pv (some (b,0))] bu (0,0)))):cln Tryz.prog (callFunc cZ #[dC b]) fC K h:=by
  constructor
  rw [x8']
  exact ⟨rfl,fun e he=>.inl ⟨_,rfl,H e he⟩⟩
end
theorem blk_cell {l:List As} {h:Hp} {i b:Nat} {T:TypeId} {c:List Value} {v:Value} (hi:l[i]? = some (blk b T c)) (hv:c[0]? = some v) (s:aQ l h):nI h ⟨b,0,none⟩ = some v:=by
  obtain ⟨g1,a1,sub1⟩:=ee hi s
  have:=sub1 _ _ a1
  unfold nI
  rw [this]
  simpa using hv
theorem sp_as (b c d:Nat) (p:Ptr):Sp Tryz.prog uf [dC b,.iface bN (.pointer (some ⟨c,0,none⟩)),vlV bN d 150,rtV bu] aG
    [blk c bu [pv p],blk d bN [pv (some (c,0))]] (fun r=>pa_ (r = true) [blk c bu [pv (some (b,0))]]):=by
  intro h st
  refine sim_errors_as _ _ _ _ ?_
  unfold sh_errors_as
  refine ⟨fun s h=>s = dC b∧aQ [blk c bu [pv p],blk d bN [pv (some (c,0))]] h,fun _ _=>0,⟨rfl,st⟩,?_⟩
  rintro _ h1 ⟨rfl,s1⟩
  unfold wR
  refine ti (rtV bu) (fun K h=>x7 b K h) ?_
  refine ti true (fun K h=>x14 K h) (df rfl ?_)
  refine c23 (blk_cell (i:=1) rfl rfl s1) ?_
  refine c8' fun e he=>?_
  have s2:aQ (blk e bu [pv (some (b,0))]::_) _:=new_s (o:=.cells #[pv (some (b,0))] bu (0,0)) s1 he
  refine c24 (blk_cell (i:=0) (T:=bu) (c:=[pv (some (b,0))]) rfl rfl s2) ?_
  obtain ⟨g2,a2,sub2⟩:=ee (i:=1) (A:=blk c bu [pv p]) rfl s2
  refine hp_storeCells _ 0 0 [pv p] _ (sub2 _ _ a2) (by simp) rfl ?_
  have s3:aQ (_::blk c bu [pv (some (b,0))]::_) _:=obj_set (o':=.cells #[pv (some (b,0))] bu (0,0)) (i:=1) s2 rfl
  exact bh rfl (cj (l:=[_,_]) (bn [0,1] s3 rfl))
theorem sp_As (b c:Nat) (p:Ptr):Sp Tryz.prog ug [dC b,.iface bN (.pointer (some ⟨c,0,none⟩))] aG
    [(etB ET EF),blk c bu [pv p]] (fun r=>pa_ (r = true) [(etB ET EF),blk c bu [pv (some (b,0))]]):=by
  intro h st
  refine sim_errors_As _ _ ?_
  unfold wt
  refine fy false (en_0 b _) (dv rfl ?_)
  refine fy false (en_1 c _) (dv rfl ?_)
  unfold wU
  refine c8 fun e he=>?_
  have s2:aQ (blk e bN [pv (some (c,0))]::_) _:=new_s (o:=.cells #[pv (some (c,0))] bN (0,0)) st he
  refine ti (rtV bN) (fun K h=>x15 K h e) ?_
  refine ti 22 (fun K h=>x10 K h) (df rfl ?_)
  refine c22 (blk_cell (i:=0) (T:=bN) (c:=[pv (some (c,0))]) rfl rfl s2) (dv rfl ?_)
  unfold wT
  refine ti (rtV bu) (fun K h=>x11 K h) ?_
  refine ti 22 (fun K h=>x12 K h) (df rfl ?_)
  obtain ⟨g3,a3,sub3⟩:=ee (i:=1) (A:=etB ET EF) rfl s2
  refine ⟨rtV gm,⟨_,_,_,sub3 _ _ a3,fun i v hv=>?_⟩,?_⟩
  · rcases i with _ | i <;> first | exact hv | simp [cV] at hv
  refine ti true (fun K h=>x17 K h) (dv rfl ?_)
  unfold rR
  refine cT [2,0,1] (rest:=[(etB ET EF)]) (sp_as b c e p) s2 rfl fun r h' s3=>?_
  obtain ⟨rfl,s4⟩:=bH.1 s3
  exact bh rfl (bn [1,0] s4 rfl)
abbrev firstOf (b:Nat):Ptr × Bool:=(some (b,0),true)
theorem sp_First (b:Nat):Sp Tryz.prog jR [dC b] eI [(etB ET EF)] (fun r=>pa_ (r = firstOf b) [(etB ET EF)]):=by
  intro h st
  refine sim_trap_First _ ?_
  unfold uv
  refine oT st fun c h1 s1=>?_
  refine fy (.iface bN (.pointer (some ⟨c,0,none⟩))) (fun K h=>by kernel_rfl) ?_
  refine cT [1,0] (rest:=[]) (sp_As b c none) s1 rfl fun r h' s2=>?_
  obtain ⟨rfl,s3⟩:=bH.1 s2
  refine df rfl ?_
  refine bB (some (b,0)) s3 (i:=1) rfl rfl rfl ?_
  unfold mz
  refine dv rfl ?_
  refine bB (some (b,0)) s3 (i:=1) rfl rfl rfl ?_
  exact bh rfl (cj (l:=[_]) (bn [1] s3 rfl))
theorem sp_First_nil:Sp Tryz.prog jR [Value.nilIface] eI [] (fun r=>pa_ (r = (none,false)) []):=by
  intro h st
  refine sim_trap_First _ ?_
  unfold uv
  refine oT st fun c h1 s1=>?_
  refine fy (.iface bN (.pointer (some ⟨c,0,none⟩))) (fun K h=>by kernel_rfl) ?_
  refine rT (sp_As_nil _) s1 fun r h' hr s2=>?_
  subst hr
  refine dv rfl ?_
  unfold mz
  exact df rfl (bh rfl trivial)
theorem sp_Of (n:Int) (hn:n ≠ 0):Sp Tryz.prog kq [.int .i64 n] iy [] (fun r=>ex fun b=>pa_ (r = dC b) [trB b ⟨n,-1,⟨0,0,0,0,0⟩,.nilIface⟩]):=by
  intro h st
  refine sim_trap_Of _ ?_
  unfold sh_trap_Of
  refine dv (by simpa using hn) ?_
  refine oT st fun b h1 s1=>?_
  refine fy (dC b) (fun K h=>by kernel_rfl) ?_
  exact ⟨b,bh rfl s1⟩
theorem sp_Of0:Sp Tryz.prog kq [.int .i64 0] iy [] (fun r=>pa_ (r = Value.nilIface) []):=by
  intro h st
  refine sim_trap_Of _ ?_
  unfold sh_trap_Of
  exact df rfl (bh rfl st)
theorem sp_Code (b:Nat) (t:ch):Sp Tryz.prog ud [dC b] bw [(etB ET EF),trB b t] (fun r=>pa_ (r = t.fCode) [(etB ET EF),trB b t]):=by
  intro h st
  refine sim_trap_Code _ ?_
  unfold sh_trap_Code
  refine fy false (en_0 b _) (dv rfl ?_)
  refine bY (i:=0) (sp_First b) rfl st fun r h' hr s2=>?_
  subst hr
  refine df rfl (cC ?_)
  refine bB t.fCode s2 (i:=1) rfl rfl rfl ?_
  exact bh rfl s2
theorem sp_In (env:Int) (c:ao) (b:Nat) (t:ch):Sp Tryz.prog n_trap_In [.int .i64 env,.agg (ao.C c).toArray,dC b] iy [(etB ET EF),trB b t]
    (fun r=>ex fun e=>pa_ (r = dC e) [trB e ⟨t.fCode,env,c,dC b⟩,(etB ET EF),trB b t]):=by
  intro h st
  refine sim_trap_In _ _ _ ?_
  unfold sh_trap_In
  refine fy false (en_0 b _) (dv rfl ?_)
  refine cT [] (rest:=[]) (sp_Code b t) st (List.append_nil _).symm fun r h' s2=>?_
  obtain ⟨rfl,s3⟩:=bH.1 s2
  refine fy ⟨t.fCode,env,c,dC b⟩ (fun K h=>by kernel_rfl) ?_
  refine oT s3 fun e h1 s4=>?_
  refine fy (dC e) (fun K h=>by kernel_rfl) ?_
  exact ⟨e,bh rfl s4⟩
theorem sp_Depth2 (b e:Nat) (t u:ch) (ht:t.fErr = dC e) (hu:u.fErr = Value.nilIface):Sp Tryz.prog wA [dC b] dW [(etB ET EF),trB b t,trB e u] (fun r=>pa_ (r = 2) [(etB ET EF),trB b t,trB e u]):=by
  intro h st
  refine sim_trap_Depth _ ?_
  unfold sh_trap_Depth
  refine bY (i:=0) (sp_First b) rfl st fun r h' hr s2=>?_
  subst hr
  refine ⟨fun s h=>(s = (0,some (b,0),true)∨s = (1,some (e,0),true)∨s = (2,none,false))∧aQ [(etB ET EF),trB b t,trB e u] h,fun s _=>3 - s.1.toNat,⟨.inl rfl,s2⟩,?_⟩
  rintro s h1 ⟨rfl | rfl | rfl,s3⟩
  · unfold mA
    refine df rfl (cC ?_)
    refine bB t.fErr s3 (i:=1) rfl rfl rfl ?_
    rw [ht]
    refine bY (i:=0) (sp_First e) rfl s3 fun r h' hr s4=>?_
    subst hr
    exact ⟨⟨.inr (.inl rfl),s4⟩,Nat.le_of_ble_eq_true rfl⟩
  · unfold mA
    refine df rfl (cC ?_)
    refine bB u.fErr s3 (i:=2) rfl rfl rfl ?_
    rw [hu]
    refine rT sp_First_nil s3 fun r h' hr s4=>?_
    subst hr
    exact ⟨⟨.inr (.inr rfl),s4⟩,Nat.le_of_ble_eq_true rfl⟩
  · unfold mA
    exact dv rfl (bh rfl s3)
end Go.Proofs.YtniiiakkdoiaiaaGreatDoor
namespace Go.Proofs.YtniiiakkdoiaiaaGreatDoor
open Go Mb
set_option linter.unusedVariables false
def sh_strconv_Itoa (a0:Int) (K:ByteArray→Hp→Prop):Hp→Prop:=cl Tryz.prog jv [(.int .i64 a0)] dV fun r4=>K r4
set_option maxRecDepth 20000 in
theorem sim_strconv_Itoa (a0:Int) {K:ByteArray→Hp→Prop} {h:Hp} (H:sh_strconv_Itoa a0 K h):Ct Tryz.prog sR #[(.int .i64 a0)] h fun v h'=>∃ r,v = dV r∧K r h':=aC [(.int .i64 a0)] Tryz.func236 rfl rfl rfl fun _=>ag<|ab<|aa (ae rfl) rfl<|ad<|ag<|ab<|aa (ac rfl) rfl<|aj (aA H en_237 rfl rfl fun r4 _ H1=>aa (ae rfl) rfl<|ad<|an<|av (az rfl (aE rfl)) ⟨r4,rfl,H1⟩)
end Go.Proofs.YtniiiakkdoiaiaaGreatDoor
namespace Go.Proofs.YtniiiakkdoiaiaaGreatDoor
open Go Mb
set_option linter.unusedVariables false
def mf (a0:Int) (K:ByteArray→Hp→Prop):Hp→Prop:=br (decide (a0 < 10)) ( hpv Tryz.prog (Instr.sliceAt uG (.string str_73df774b) (some (.int .i64 a0)) (some (.int .i64 (IntKind.i64.wrap (a0 + 1)))) none) dV fun (v8:ByteArray)=>K v8) ( hpv Tryz.prog (Instr.sliceAt uG (.string str_e9752c08) (some (.int .i64 (IntKind.i64.wrap (a0 * 2)))) (some (.int .i64 (IntKind.i64.wrap ((IntKind.i64.wrap (a0 * 2)) + 2)))) none) dV fun (v14:ByteArray)=>K v14)
set_option maxRecDepth 20000 in
theorem sx (a0:Int) {K:ByteArray→Hp→Prop} {h:Hp} (H:mf a0 K h):Ct Tryz.prog ji #[(.int .i64 a0)] h fun v h'=>∃ r,v = dV r∧K r h':=aC [(.int .i64 a0)] Tryz.func239 rfl rfl rfl fun _=>ag<|ab<|aa (ae rfl) rfl<|ad<|ag<|ag<|ab<|aa (ac rfl) rfl<|aa (cA rfl rfl) rfl<|ad<|aD rfl H (fun k1 H2=>ag<|ab<|aa (ac rfl) rfl<|aa (ac rfl) rfl<|aa (bM rfl rfl) rfl<|aj (be H2 (ff rfl rfl rfl rfl rfl) rfl fun v8 _ H3=>aa (ae rfl) rfl<|ad<|an<|av (az rfl (aE rfl)) ⟨v8,rfl,H3⟩)) (fun k1 H2=>au<|ag<|ab<|aa (ac rfl) rfl<|aa (v_mul rfl rfl) rfl<|aa (ac rfl) rfl<|aa (v_mul rfl rfl) rfl<|aa (bM rfl rfl) rfl<|aj (be H2 (ff rfl rfl rfl rfl rfl) rfl fun v14 _ H4=>aa (ae rfl) rfl<|ad<|an<|av (az rfl (aE rfl)) ⟨v14,rfl,H4⟩))
def gc (a0:Int) (K:ByteArray→Hp→Prop) (b5:Nat) (s9:Int):Hp→Prop:=cl Tryz.prog qV [(.int .u64 s9)] dW fun r27=>hpv Tryz.prog (Instr.sliceAt vN (.pointer (some ⟨b5,0,none⟩)) (some (.int .i64 1)) (some (.int .i64 (IntKind.i64.wrap (1 + r27)))) none) R_Suint8 fun (v30:Sl)=>cl Tryz.prog oU [(sv v30),(.int .u64 s9)] R_ fun (_:Unit)=>br (decide (a0 < 0)) ( st (b5,0) [.int .u8 45]<|hpv Tryz.prog (Instr.sliceAt vN (.pointer (some ⟨b5,0,none⟩)) none (some (.int .i64 (IntKind.i64.wrap (1 + r27)))) none) R_Suint8 fun (v38:Sl)=>hpv Tryz.prog (convert 303 9 (sv v38)) dV fun (v39:ByteArray)=>K v39) ( hpv Tryz.prog (Instr.sliceAt vN (.pointer (some ⟨b5,0,none⟩)) (some (.int .i64 1)) (some (.int .i64 (IntKind.i64.wrap (1 + r27)))) none) R_Suint8 fun (v42:Sl)=>hpv Tryz.prog (convert 303 9 (sv v42)) dV fun (v43:ByteArray)=>K v43)
def jK (a0:Int) (a1:Int) (K:ByteArray→Hp→Prop):Hp→Prop:=br (a1 == 10) ( br ((decide (0 ≤ a0)) && (decide (a0 < 100))) ( cl Tryz.prog ji [(.int .i64 a0)] dV fun r19=>K r19) ( nw vN [.int .u8 0,.int .u8 0,.int .u8 0,.int .u8 0,.int .u8 0,.int .u8 0,.int .u8 0,.int .u8 0,.int .u8 0,.int .u8 0,.int .u8 0,.int .u8 0,.int .u8 0,.int .u8 0,.int .u8 0,.int .u8 0,.int .u8 0,.int .u8 0,.int .u8 0,.int .u8 0,.int .u8 0,.int .u8 0,.int .u8 0,.int .u8 0] fun b5=>br (decide (a0 < 0)) ( gc a0 K b5 (IntKind.u64.wrap (0 - (IntKind.u64.wrap a0)))) ( gc a0 K b5 (IntKind.u64.wrap a0)))) ( cl Tryz.prog qD [(sv (⟨none,0,0,none⟩:Sl)),(.int .u64 (IntKind.u64.wrap a0)),(.int .i64 a1),(.bool (decide (a0 < 0))),(.bool false)] R_Suint8_string fun r50=>K r50.2)
set_option maxRecDepth 20000 in
theorem pM (a0:Int) (a1:Int) {K:ByteArray→Hp→Prop} {h:Hp} (H:jK a0 a1 K h):Ct Tryz.prog gA #[(.int .i64 a0),(.int .i64 a1)] h fun v h'=>∃ r,v = dV r∧K r h':=aC [(.int .i64 a0),(.int .i64 a1)] Tryz.func238 rfl rfl rfl fun _=>ag<|ab<|aa (ae rfl) rfl<|ad<|ag<|ag<|ab<|aa (ac rfl) rfl<|aa (cc rfl rfl) rfl<|ad<|aD rfl H (fun k1 H2=>ag<|ag<|ab<|aa (ac rfl) rfl<|aa (uF rfl rfl) rfl<|aa (ac rfl) rfl<|ai rfl rfl rfl (aB _) (fun g3=>wv (ac rfl)) rfl<|ai rfl rfl rfl (aB _) (fun g4=>wv (cA (aK rfl g4) rfl)) rfl<|aa (bX rfl rfl) rfl<|ad<|aD rfl H2 (fun k5 H6=>ag<|ab<|aa (ac rfl) rfl<|aj (aA H6 en_239 rfl rfl fun r19 _ H7=>aa (ae rfl) rfl<|ad<|an<|av (az rfl (aE rfl)) ⟨r19,rfl,H7⟩)) (fun k5 H6=>au<|ag<|ab<|aj (to_alloc zero_300 rfl rfl H6 fun b5 _ H8=>ad<|ag<|ab<|aa (ac rfl) rfl<|aa (dY ⟨_,Tryz.underlying2⟩ Tryz.underlying25 rfl) rfl<|aa (ae rfl) rfl<|ad<|eG (gc a0 K b5) (fun s9=>[(0,(.int .i64 a0)),(5,(.pointer (some ⟨b5,0,none⟩))),(6,(.int .u64 s9))]) (fun s9=>[]) ( ag<|ab<|aa (ac rfl) rfl<|aa (cA rfl rfl) rfl<|ad<|aD rfl H8 (fun k21 H22=>ab<|aa (ac rfl) rfl<|aa (v_neg rfl) rfl<|aa (ae rfl) rfl<|ad<|cQ (IntKind.u64.wrap (0 - (IntKind.u64.wrap a0))) H22 (.cons rfl (.cons rfl (.cons rfl (.nil _)))) .slnil) (fun k21 H22=>au<|cQ (IntKind.u64.wrap a0) H22 (.cons rfl (.cons rfl (.cons rfl (.nil _)))) .slnil)) (fun s9 _ H10=>ag<|ab<|aa (ac rfl) rfl<|aj (aA H10 en_240 rfl rfl fun r27 _ H11=>aa (ae rfl) rfl<|ad<|ag<|ab<|aa (ac rfl) rfl<|aa (bM rfl rfl) rfl<|aj (be H11 (ff rfl rfl rfl rfl rfl) rfl fun v30 _ H12=>aa (ac rfl) rfl<|aj (aA H12 en_241 rfl rfl fun r32 _ H13=>ad<|ag<|ag<|ab<|aa (ac rfl) rfl<|aa (cA rfl rfl) rfl<|ad<|aD rfl H13 (fun k14 H15=>ag<|ab<|aa (bJ arr_300 rfl rfl (by decide)) rfl<|aj (dw inf_5 rfl rfl rfl rfl rfl H15 fun _ H16=>ad<|ag<|ab<|aa (ac rfl) rfl<|aa (bM rfl rfl) rfl<|aj (be H16 (ff rfl rfl rfl rfl rfl) rfl fun v38 _ H17=>aj (be H17 (x_convert rfl) rfl fun v39 _ H18=>aa (ae rfl) rfl<|ad<|an<|av (az rfl (aE rfl)) ⟨v39,rfl,H18⟩)))) (fun k14 H15=>au<|ag<|ab<|aa (ac rfl) rfl<|aa (bM rfl rfl) rfl<|aj (be H15 (ff rfl rfl rfl rfl rfl) rfl fun v42 _ H19=>aj (be H19 (x_convert rfl) rfl fun v43 _ H20=>aa (ae rfl) rfl<|ad<|an<|av (az rfl (aE rfl)) ⟨v43,rfl,H20⟩)))))))))) (fun k1 H2=>au<|ag<|ab<|aa (ac rfl) rfl<|aa (dY ⟨_,Tryz.underlying2⟩ Tryz.underlying25 rfl) rfl<|aa (ac rfl) rfl<|aa (ac rfl) rfl<|aa (cA rfl rfl) rfl<|aj (aA H2 en_242 rfl rfl fun r50 _ H23=>aa (ac rfl) rfl<|aa (ap rfl rfl) rfl<|aa (ap rfl rfl) rfl<|aa (ae rfl) rfl<|aa (ae rfl) rfl<|ad<|ag<|ab<|aa (ac rfl) rfl<|aa (ae rfl) rfl<|ad<|an<|av (az rfl (aE rfl)) ⟨r50.2,rfl,H23⟩))
def mG (a0:Int) (K:ByteArray→Hp→Prop):Hp→Prop:=cl Tryz.prog gA [(.int .i64 a0),(.int .i64 10)] dV fun r4=>K r4
set_option maxRecDepth 20000 in
theorem tx (a0:Int) {K:ByteArray→Hp→Prop} {h:Hp} (H:mG a0 K h):Ct Tryz.prog jv #[(.int .i64 a0)] h fun v h'=>∃ r,v = dV r∧K r h':=aC [(.int .i64 a0)] Tryz.func237 rfl rfl rfl fun _=>ag<|ab<|aa (ae rfl) rfl<|ad<|ag<|ab<|aa (ac rfl) rfl<|aj (aA H en_238 rfl rfl fun r4 _ H1=>aa (ae rfl) rfl<|ad<|an<|av (az rfl (aE rfl)) ⟨r4,rfl,H1⟩)
end Go.Proofs.YtniiiakkdoiaiaaGreatDoor
namespace Go.Proofs.YtniiiakkdoiaiaaGreatDoor
open Go Mb
set_option linter.unusedVariables false
def pf (K:Bool→Hp→Prop):Hp→Prop:=cl Tryz.prog kq [(.int .i64 3)] iy fun r5=>cl Tryz.prog n_trap_In [(.int .i64 2),(.agg (ao.C (⟨1,2,0,0,0⟩:ao)).toArray),r5] iy fun r6=>cl Tryz.prog jR [r6] eI fun r9=>hpv Tryz.prog (do eqGuard .eql 171 (.tmp 12) (.const Value.nilIface) r6 Value.nilIface; binOp .eql 171 r6 Value.nilIface:Sem Value) aG fun (v13:Bool)=>br (v13 || r9.1.isNone) ( K false) ( br r9.2 ( nn r9.1 fun q21=>ld (q21.1,q21.2 + 1) (cI .i64) fun x23=>br (x23 == 2) ( ld (q21.1,q21.2 + 2) ao.C fun x30=>br (ao.eqb x30 (⟨1,2,0,0,0⟩:ao)) ( ld (q21.1,q21.2 + 0) (cI .i64) fun x38=>br (x38 == 3) ( cl Tryz.prog ud [r6] bw fun r43=>br (r43 == 3) ( cl Tryz.prog wA [r6] dW fun r48=>br (r48 == 2) ( cl Tryz.prog kq [(.int .i64 3)] iy fun r53=>cl Tryz.prog nD [r6,r53] aG fun r54=>br r54 ( cl Tryz.prog kq [(.int .i64 4)] iy fun r58=>cl Tryz.prog nD [r6,r58] aG fun r59=>br (!r59) ( cln Tryz.prog (callMethod r6 "Error" #[]) dV fun (v64:ByteArray)=>hpv Tryz.prog (do eqGuard .eql 9 (.tmp 64) (.const (.string nU)) (.string v64) (.string nU); binOp .eql 9 (.string v64) (.string nU):Sem Value) aG fun (v65:Bool)=>br v65 ( cl Tryz.prog kq [(.int .i64 0)] iy fun r68=>hpv Tryz.prog (do eqGuard .eql 171 (.tmp 68) (.const Value.nilIface) r68 Value.nilIface; binOp .eql 171 r68 Value.nilIface:Sem Value) aG fun (v69:Bool)=>K v69) ( K false)) ( K false)) ( K false)) ( K false)) ( K false)) ( K false)) ( K false)) ( K false)) ( K false))
set_option maxRecDepth 20000 in
theorem wg {K:Bool→Hp→Prop} {h:Hp} (H:pf K h):Ct Tryz.prog ll #[] h fun v h'=>∃ r,v = aG r∧K r h':=aC [] Tryz.func203 rfl rfl rfl fun _=>ag<|ab<|aa (ae rfl) rfl<|ad<|ag<|ab<|aa (bo rfl (mb 1 2)) rfl<|aj (aA H wX rfl rfl fun r5 _ H1=>aj (aA H1 en_168 rfl rfl fun r6 _ H2=>aa (ae rfl) rfl<|ad<|ag<|ab<|aa (ac rfl) rfl<|aj (aA H2 en_202 rfl rfl fun r9 _ H3=>aa (ac rfl) rfl<|aa (ap rfl rfl) rfl<|aa (ap rfl rfl) rfl<|aa (ae rfl) rfl<|aa (ae rfl) rfl<|ad<|ag<|ag<|ab<|aa (ac rfl) rfl<|aj (be H3 (gl rfl rfl) rfl fun v13 _ H4=>aa (ac rfl) rfl<|ai rfl rfl rfl (aS _) (fun g5=>wv (ac rfl)) rfl<|ai rfl rfl rfl (aS _) (fun g6=>wv (ct Tryz.underlying226 (aK rfl g6))) rfl<|aa (du rfl rfl) rfl<|ad<|aD rfl H4 (fun k7 H8=>ag<|ab<|aa (ae rfl) rfl<|ad<|an<|av (az rfl (aE rfl)) ⟨false,rfl,H8⟩) (fun k7 H8=>au<|ag<|ab<|aa (ac rfl) rfl<|aa (ac rfl) rfl<|ai rfl rfl rfl (aB _) (fun g9=>wv (ac rfl)) rfl<|bW H8 (fun k11 H12=>bP H12 fun q21 e13 H14=>aI rfl rfl rfl (congrArg Value.bool k11) (aN (wv (aU (aX (aK rfl k11) (ay e13)))) rfl<|aI rfl rfl rfl (congrArg Value.bool k11) (aN (wv (am fld_228_1 rfl)) rfl<|aI rfl rfl rfl (congrArg Value.bool k11) (bf H14 bj rfl (fun _=>rfl) rfl fun x23 H15=>aI rfl rfl rfl (congrArg Value.bool k11) (aN (wv (cc rfl rfl)) rfl<|aa (aT rfl k11 rfl) rfl<|aa (ac rfl) rfl<|ai rfl rfl rfl (aB _) (fun g16=>wv (ac (aX rfl (ay e13)))) rfl<|ai rfl rfl rfl (aB _) (fun g17=>wv (aU (aK rfl g17))) rfl<|ai rfl rfl rfl (aB _) (fun g18=>wv (am fld_228_2 (aK rfl g18))) rfl<|bW H15 (fun k20 H21=>aI rfl rfl rfl (congrArg Value.bool k20) (gL H21 eN (aK rfl k20) (fun _=>rfl) rfl fun x30 H22=>aI rfl rfl rfl (congrArg Value.bool k20) (aN (wv (bo rfl (mb 1 2))) rfl<|aI rfl rfl rfl (congrArg Value.bool k20) (aN (wv (v_eqA eqg_27 (eqr_27 9998 _ _) rfl rfl)) rfl<|aa (aT rfl k20 rfl) rfl<|aa (ac rfl) rfl<|ai rfl rfl rfl (aB _) (fun g23=>wv (ac (aX rfl (ay e13)))) rfl<|ai rfl rfl rfl (aB _) (fun g24=>wv (aU (aK rfl g24))) rfl<|ai rfl rfl rfl (aB _) (fun g25=>wv (am vp (aK rfl g25))) rfl<|bW H22 (fun k27 H28=>aI rfl rfl rfl (congrArg Value.bool k27) (bf H28 oq (aK rfl k27) (fun _=>rfl) rfl fun x38 H29=>aI rfl rfl rfl (congrArg Value.bool k27) (aN (wv (cc rfl rfl)) rfl<|aa (aT rfl k27 rfl) rfl<|aa (ac rfl) rfl<|ai rfl rfl rfl (aB _) (fun g30=>wv (ac rfl)) rfl<|bW H29 (fun k32 H33=>aI rfl rfl rfl (congrArg Value.bool k32) (aA H33 en_189 (aY (aK rfl k32) bU) rfl fun r43 _ H34=>aI rfl rfl rfl (congrArg Value.bool k32) (aN (wv (cc rfl rfl)) rfl<|aa (aT rfl k32 rfl) rfl<|aa (ac rfl) rfl<|ai rfl rfl rfl (aB _) (fun g35=>wv (ac rfl)) rfl<|bW H34 (fun k37 H38=>aI rfl rfl rfl (congrArg Value.bool k37) (aA H38 en_208 (aY (aK rfl k37) bU) rfl fun r48 _ H39=>aI rfl rfl rfl (congrArg Value.bool k37) (aN (wv (cc rfl rfl)) rfl<|aa (aT rfl k37 rfl) rfl<|aa (ac rfl) rfl<|ai rfl rfl rfl (aB _) (fun g40=>wv (ac rfl)) rfl<|bW H39 (fun k42 H43=>aI rfl rfl rfl (congrArg Value.bool k42) (aA H43 wX rfl rfl fun r53 _ H44=>aI rfl rfl rfl (congrArg Value.bool k42) (aA H44 en_133 (aY (aK rfl k42) (aY rfl bU)) rfl fun r54 _ H45=>aa (aT rfl k42 rfl) rfl<|aa (ac rfl) rfl<|ai rfl rfl rfl (aB _) (fun g46=>wv (ac rfl)) rfl<|bW H45 (fun k48 H49=>aI rfl rfl rfl (congrArg Value.bool k48) (aA H49 wX rfl rfl fun r58 _ H50=>aI rfl rfl rfl (congrArg Value.bool k48) (aA H50 en_133 (aY (aK rfl k48) (aY rfl bU)) rfl fun r59 _ H51=>aI rfl rfl rfl (congrArg Value.bool k48) (aN (wv (cw rfl)) rfl<|aa (aT rfl k48 rfl) rfl<|aa (ac rfl) rfl<|ai rfl rfl rfl (aB _) (fun g52=>wv (ac rfl)) rfl<|bW H51 (fun k54 H55=>aI rfl rfl rfl (congrArg Value.bool k54) (fY H55 (fX (vs:=[]) (aK rfl k54) rfl) rfl fun v64 _ H56=>aI rfl rfl rfl (congrArg Value.bool k54) (be H56 (gl rfl rfl) rfl fun v65 _ H57=>aa (aT rfl k54 rfl) rfl<|aa (ac rfl) rfl<|bW H57 (fun k59 H60=>aI rfl rfl rfl (congrArg Value.bool k59) (aA H60 wX rfl rfl fun r68 _ H61=>aI rfl rfl rfl (congrArg Value.bool k59) (be H61 (gl rfl rfl) rfl fun v69 _ H62=>aa (aT rfl k59 rfl) rfl<|aa (ae rfl) rfl<|ad<|an<|av (az rfl (aE rfl)) ⟨v69,rfl,H62⟩))) (fun k59 H60=>al rfl rfl rfl (aZ k59) rfl<|al rfl rfl rfl (aZ k59) rfl<|aa (ax rfl k59 rfl) rfl<|aa (ae rfl) rfl<|ad<|an<|av (az rfl (aE rfl)) ⟨false,rfl,H60⟩)))) (fun k54 H55=>al rfl rfl rfl (aZ k54) rfl<|al rfl rfl rfl (aZ k54) rfl<|aa (ax rfl k54 rfl) rfl<|aa (ac rfl) rfl<|al rfl rfl rfl rfl rfl<|al rfl rfl rfl rfl rfl<|aa (ax rfl rfl rfl) rfl<|aa (ae rfl) rfl<|ad<|an<|av (az rfl (aE rfl)) ⟨false,rfl,H55⟩))))) (fun k48 H49=>al rfl rfl rfl (aZ k48) rfl<|al rfl rfl rfl (aZ k48) rfl<|al rfl rfl rfl (aZ k48) rfl<|aa (ax rfl k48 rfl) rfl<|aa (ac rfl) rfl<|al rfl rfl rfl rfl rfl<|al rfl rfl rfl rfl rfl<|al rfl rfl rfl rfl rfl<|aa (ax rfl rfl rfl) rfl<|aa (ac rfl) rfl<|al rfl rfl rfl rfl rfl<|al rfl rfl rfl rfl rfl<|aa (ax rfl rfl rfl) rfl<|aa (ae rfl) rfl<|ad<|an<|av (az rfl (aE rfl)) ⟨false,rfl,H49⟩)))) (fun k42 H43=>al rfl rfl rfl (aZ k42) rfl<|al rfl rfl rfl (aZ k42) rfl<|aa (ax rfl k42 rfl) rfl<|aa (ac rfl) rfl<|al rfl rfl rfl rfl rfl<|al rfl rfl rfl rfl rfl<|al rfl rfl rfl rfl rfl<|al rfl rfl rfl rfl rfl<|aa (ax rfl rfl rfl) rfl<|aa (ac rfl) rfl<|al rfl rfl rfl rfl rfl<|al rfl rfl rfl rfl rfl<|al rfl rfl rfl rfl rfl<|aa (ax rfl rfl rfl) rfl<|aa (ac rfl) rfl<|al rfl rfl rfl rfl rfl<|al rfl rfl rfl rfl rfl<|aa (ax rfl rfl rfl) rfl<|aa (ae rfl) rfl<|ad<|an<|av (az rfl (aE rfl)) ⟨false,rfl,H43⟩)))) (fun k37 H38=>al rfl rfl rfl (aZ k37) rfl<|al rfl rfl rfl (aZ k37) rfl<|aa (ax rfl k37 rfl) rfl<|aa (ac rfl) rfl<|al rfl rfl rfl rfl rfl<|al rfl rfl rfl rfl rfl<|al rfl rfl rfl rfl rfl<|aa (ax rfl rfl rfl) rfl<|aa (ac rfl) rfl<|al rfl rfl rfl rfl rfl<|al rfl rfl rfl rfl rfl<|al rfl rfl rfl rfl rfl<|al rfl rfl rfl rfl rfl<|aa (ax rfl rfl rfl) rfl<|aa (ac rfl) rfl<|al rfl rfl rfl rfl rfl<|al rfl rfl rfl rfl rfl<|al rfl rfl rfl rfl rfl<|aa (ax rfl rfl rfl) rfl<|aa (ac rfl) rfl<|al rfl rfl rfl rfl rfl<|al rfl rfl rfl rfl rfl<|aa (ax rfl rfl rfl) rfl<|aa (ae rfl) rfl<|ad<|an<|av (az rfl (aE rfl)) ⟨false,rfl,H38⟩)))) (fun k32 H33=>al rfl rfl rfl (aZ k32) rfl<|al rfl rfl rfl (aZ k32) rfl<|aa (ax rfl k32 rfl) rfl<|aa (ac rfl) rfl<|al rfl rfl rfl rfl rfl<|al rfl rfl rfl rfl rfl<|al rfl rfl rfl rfl rfl<|aa (ax rfl rfl rfl) rfl<|aa (ac rfl) rfl<|al rfl rfl rfl rfl rfl<|al rfl rfl rfl rfl rfl<|al rfl rfl rfl rfl rfl<|aa (ax rfl rfl rfl) rfl<|aa (ac rfl) rfl<|al rfl rfl rfl rfl rfl<|al rfl rfl rfl rfl rfl<|al rfl rfl rfl rfl rfl<|al rfl rfl rfl rfl rfl<|aa (ax rfl rfl rfl) rfl<|aa (ac rfl) rfl<|al rfl rfl rfl rfl rfl<|al rfl rfl rfl rfl rfl<|al rfl rfl rfl rfl rfl<|aa (ax rfl rfl rfl) rfl<|aa (ac rfl) rfl<|al rfl rfl rfl rfl rfl<|al rfl rfl rfl rfl rfl<|aa (ax rfl rfl rfl) rfl<|aa (ae rfl) rfl<|ad<|an<|av (az rfl (aE rfl)) ⟨false,rfl,H33⟩)))) (fun k27 H28=>al rfl rfl rfl (aZ k27) rfl<|al rfl rfl rfl (aZ k27) rfl<|aa (ax rfl k27 rfl) rfl<|aa (ac rfl) rfl<|al rfl rfl rfl rfl rfl<|al rfl rfl rfl rfl rfl<|al rfl rfl rfl rfl rfl<|aa (ax rfl rfl rfl) rfl<|aa (ac rfl) rfl<|al rfl rfl rfl rfl rfl<|al rfl rfl rfl rfl rfl<|al rfl rfl rfl rfl rfl<|aa (ax rfl rfl rfl) rfl<|aa (ac rfl) rfl<|al rfl rfl rfl rfl rfl<|al rfl rfl rfl rfl rfl<|al rfl rfl rfl rfl rfl<|aa (ax rfl rfl rfl) rfl<|aa (ac rfl) rfl<|al rfl rfl rfl rfl rfl<|al rfl rfl rfl rfl rfl<|al rfl rfl rfl rfl rfl<|al rfl rfl rfl rfl rfl<|aa (ax rfl rfl rfl) rfl<|aa (ac rfl) rfl<|al rfl rfl rfl rfl rfl<|al rfl rfl rfl rfl rfl<|al rfl rfl rfl rfl rfl<|aa (ax rfl rfl rfl) rfl<|aa (ac rfl) rfl<|al rfl rfl rfl rfl rfl<|al rfl rfl rfl rfl rfl<|aa (ax rfl rfl rfl) rfl<|aa (ae rfl) rfl<|ad<|an<|av (az rfl (aE rfl)) ⟨false,rfl,H28⟩))))) (fun k20 H21=>al rfl rfl rfl (aZ k20) rfl<|al rfl rfl rfl (aZ k20) rfl<|al rfl rfl rfl (aZ k20) rfl<|aa (ax rfl k20 rfl) rfl<|aa (ac rfl) rfl<|al rfl rfl rfl rfl rfl<|al rfl rfl rfl rfl rfl<|al rfl rfl rfl rfl rfl<|al rfl rfl rfl rfl rfl<|al rfl rfl rfl rfl rfl<|aa (ax rfl rfl rfl) rfl<|aa (ac rfl) rfl<|al rfl rfl rfl rfl rfl<|al rfl rfl rfl rfl rfl<|al rfl rfl rfl rfl rfl<|aa (ax rfl rfl rfl) rfl<|aa (ac rfl) rfl<|al rfl rfl rfl rfl rfl<|al rfl rfl rfl rfl rfl<|al rfl rfl rfl rfl rfl<|aa (ax rfl rfl rfl) rfl<|aa (ac rfl) rfl<|al rfl rfl rfl rfl rfl<|al rfl rfl rfl rfl rfl<|al rfl rfl rfl rfl rfl<|aa (ax rfl rfl rfl) rfl<|aa (ac rfl) rfl<|al rfl rfl rfl rfl rfl<|al rfl rfl rfl rfl rfl<|al rfl rfl rfl rfl rfl<|al rfl rfl rfl rfl rfl<|aa (ax rfl rfl rfl) rfl<|aa (ac rfl) rfl<|al rfl rfl rfl rfl rfl<|al rfl rfl rfl rfl rfl<|al rfl rfl rfl rfl rfl<|aa (ax rfl rfl rfl) rfl<|aa (ac rfl) rfl<|al rfl rfl rfl rfl rfl<|al rfl rfl rfl rfl rfl<|aa (ax rfl rfl rfl) rfl<|aa (ae rfl) rfl<|ad<|an<|av (az rfl (aE rfl)) ⟨false,rfl,H21⟩)))))) (fun k11 H12=>al rfl rfl rfl (aZ k11) rfl<|al rfl rfl rfl (aZ k11) rfl<|al rfl rfl rfl (aZ k11) rfl<|al rfl rfl rfl (aZ k11) rfl<|aa (ax rfl k11 rfl) rfl<|aa (ac rfl) rfl<|al rfl rfl rfl rfl rfl<|al rfl rfl rfl rfl rfl<|al rfl rfl rfl rfl rfl<|al rfl rfl rfl rfl rfl<|al rfl rfl rfl rfl rfl<|al rfl rfl rfl rfl rfl<|aa (ax rfl rfl rfl) rfl<|aa (ac rfl) rfl<|al rfl rfl rfl rfl rfl<|al rfl rfl rfl rfl rfl<|al rfl rfl rfl rfl rfl<|al rfl rfl rfl rfl rfl<|al rfl rfl rfl rfl rfl<|aa (ax rfl rfl rfl) rfl<|aa (ac rfl) rfl<|al rfl rfl rfl rfl rfl<|al rfl rfl rfl rfl rfl<|al rfl rfl rfl rfl rfl<|aa (ax rfl rfl rfl) rfl<|aa (ac rfl) rfl<|al rfl rfl rfl rfl rfl<|al rfl rfl rfl rfl rfl<|al rfl rfl rfl rfl rfl<|aa (ax rfl rfl rfl) rfl<|aa (ac rfl) rfl<|al rfl rfl rfl rfl rfl<|al rfl rfl rfl rfl rfl<|al rfl rfl rfl rfl rfl<|aa (ax rfl rfl rfl) rfl<|aa (ac rfl) rfl<|al rfl rfl rfl rfl rfl<|al rfl rfl rfl rfl rfl<|al rfl rfl rfl rfl rfl<|al rfl rfl rfl rfl rfl<|aa (ax rfl rfl rfl) rfl<|aa (ac rfl) rfl<|al rfl rfl rfl rfl rfl<|al rfl rfl rfl rfl rfl<|al rfl rfl rfl rfl rfl<|aa (ax rfl rfl rfl) rfl<|aa (ac rfl) rfl<|al rfl rfl rfl rfl rfl<|al rfl rfl rfl rfl rfl<|aa (ax rfl rfl rfl) rfl<|aa (ae rfl) rfl<|ad<|an<|av (az rfl (aE rfl)) ⟨false,rfl,H12⟩))))))
def ph (K:Bool→Hp→Prop):Hp→Prop:=cl Tryz.prog ll [] aG fun r1=>K r1
set_option maxRecDepth 20000 in
theorem wh {K:Bool→Hp→Prop} {h:Hp} (H:ph K h):Ct Tryz.prog lm #[] h fun v h'=>∃ r,v = aG r∧K r h':=aC [] Tryz.func194 rfl rfl rfl fun _=>ag<|ab<|aa (ae rfl) rfl<|ad<|ag<|ab<|aj (aA H en_203 rfl rfl fun r1 _ H1=>aa (ae rfl) rfl<|ad<|an<|av (az rfl (aE rfl)) ⟨r1,rfl,H1⟩)
end Go.Proofs.YtniiiakkdoiaiaaGreatDoor
namespace Go.Proofs.YtniiiakkdoiaiaaGreatDoor
open Go Mb
variable {ET:Nat} {EF:Nat × Nat}
abbrev s3_:ByteArray:=⟨#[51]⟩
theorem sp_small3:Sp Tryz.prog ji [.int .i64 3] dV [] (fun r=>pa_ (r = s3_) []):=by
  intro h st
  refine sx _ ?_
  unfold mf
  exact df rfl (fy s3_ (fun K h=>by kernel_rfl) (bh rfl st))
theorem sp_FormatInt3:Sp Tryz.prog gA [.int .i64 3,.int .i64 10] dV [] (fun r=>pa_ (r = s3_) []):=by
  intro h st
  refine pM _ _ ?_
  unfold jK
  refine df rfl (df rfl (rT sp_small3 st fun r h' hr s2=>?_))
  exact bh hr s2
theorem sp_Itoa3':Sp Tryz.prog jv [.int .i64 3] dV [] (fun r=>pa_ (r = s3_) []):=by
  intro h st
  refine tx _ ?_
  unfold mG
  exact rT sp_FormatInt3 st fun r h' hr s2=>bh hr s2
theorem sp_Itoa3:Sp Tryz.prog sR [.int .i64 3] dV [] (fun r=>pa_ (r = s3_) []):=by
  intro h st
  refine sim_strconv_Itoa _ ?_
  unfold sh_strconv_Itoa
  exact rT sp_Itoa3' st fun r h' hr s2=>bh hr s2
abbrev t3_:ByteArray:=⟨#[116,114,97,112,32,51]⟩
theorem sp_Error1 (b:Nat) (t:ch) (hc:t.fCode = 3) (ht:t.fErr = Value.nilIface):Sp Tryz.prog iR [pv (some (b,0))] dV [trB b t] (fun r=>pa_ (r = t3_) [trB b t]):=by
  intro h st
  refine re _ ?_
  unfold mX
  refine dv rfl (cC ?_)
  refine bB t.fCode st (i:=0) rfl rfl rfl ?_
  rw [hc]
  refine rT sp_Itoa3 st fun r h' hr s2=>?_
  subst hr
  refine fy t3_ (fun K h=>by kernel_rfl) ?_
  refine bB t.fErr s2 (i:=0) rfl rfl rfl ?_
  rw [ht]
  refine fy false (fun K h=>by kernel_rfl) (dv rfl ?_)
  exact bh rfl s2
theorem sp_Error2 (b e:Nat) (t u:ch) (hc:t.fCode = 3) (ht:t.fErr = dC e) (hd:u.fCode = 3) (hu:u.fErr = Value.nilIface):Sp Tryz.prog iR [pv (some (b,0))] dV [trB b t,trB e u] (fun r=>pa_ (r = nU) [trB b t,trB e u]):=by
  intro h st
  refine re _ ?_
  unfold mX
  refine dv rfl (cC ?_)
  refine bB t.fCode st (i:=0) rfl rfl rfl ?_
  rw [hc]
  refine rT sp_Itoa3 st fun r h' hr s2=>?_
  subst hr
  refine fy t3_ (fun K h=>by kernel_rfl) ?_
  refine bB t.fErr s2 (i:=0) rfl rfl rfl ?_
  rw [ht]
  refine fy true (fun K h=>by kernel_rfl) (df rfl ?_)
  refine bB t.fErr s2 (i:=0) rfl rfl rfl ?_
  rw [ht]
  refine cln_en (f:=iR) (vs:=[pv (some (e,0))]) (fun K h=>by kernel_rfl) ?_
  refine bY (i:=1) (sp_Error1 e u hd hu) rfl s2 fun r h' hr s3=>?_
  subst hr
  refine fy ⟨#[58,32,116,114,97,112,32,51]⟩ (fun K h=>by kernel_rfl) ?_
  refine fy nU (fun K h=>by kernel_rfl) ?_
  exact bh rfl s3
theorem star_ne {b d:Nat} {T T':TypeId} {c c':List Value} {l:List As} {h:Hp} (s:aQ (blk b T c::blk d T' c'::l) h):b ≠ d:=by
  obtain ⟨h1,h2,dj,e,a,h3,h4,dj2,e2,a2,_⟩:=s
  rintro rfl
  have h1b:h1 b = some _:=a
  have h3b:h3 b = some _:=a2
  rcases dj b with x | x
  · rw [h1b] at x; cases x
  · rw [e2,un_left h3b] at x; cases x
theorem sp_Trap_Is (b d:Nat) (t w:ch):Sp Tryz.prog sP [pv (some (b,0)),dC d] aG [trB b t,trB d w] (fun r=>pa_ (r = (t.fCode == w.fCode)) [trB b t,trB d w]):=by
  intro h st
  refine sim_trap_Trap_Is _ _ ?_
  unfold sh_trap_Trap_Is
  refine fy (some (d,0),true) (fun K h=>by kernel_rfl) (df rfl (df rfl (df rfl (cC (cC ?_)))))
  refine bB t.fCode st (i:=0) rfl rfl rfl ?_
  refine bB w.fCode st (i:=1) rfl rfl rfl ?_
  exact bh rfl st
theorem sp_Unwrap (b:Nat) (t:ch):Sp Tryz.prog mZ [pv (some (b,0))] encV [trB b t] (fun r=>pa_ (r = t.fErr) [trB b t]):=by
  intro h st
  refine sim_trap_Trap_Unwrap _ ?_
  unfold rf
  refine dv rfl (cC ?_)
  refine bB t.fErr st (i:=0) rfl rfl rfl ?_
  exact bh rfl st
theorem eq_traps {K:Bool→Hp→Prop} {a b n m:Nat} {t u:ch} {l:List As} {h:Hp} (s:aQ (trB a t::trB b u::l) h) (k:K false h):hpv Tryz.prog (do eqGuard .eql 171 (.tmp n) (.tmp m) (dC a) (dC b); binOp .eql 171 (dC a) (dC b):Sem Value) aG K h:=by
  obtain ⟨g1,a1,sub1⟩:=ee (l:=trB a t::trB b u::l) (A:=trB a t) (i:=0) (by rfl) s
  obtain ⟨g2,a2,sub2⟩:=ee (l:=trB a t::trB b u::l) (A:=trB b u) (i:=1) (by rfl) s
  have q1:h a = some (.cells (ch.C t).toArray ns (0,0)):=sub1 _ _ a1
  have q2:h b = some (.cells (ch.C u).toArray ns (0,0)):=sub2 _ _ a2
  have hne:=star_ne s
  have e:(a == b) = false:=by simpa using hne
  constructor
  rw [y6,cX]
  refine x25 _ _ q1 q2 ?_
  rw [e]
  exact ⟨false,rfl,k⟩
theorem is_step {b d:Nat} {t w:ch} {l:List As} {h:Hp} {K:Bool→Hp→Prop} {Rec:Value→Hp→Prop} (st:aQ (trB b t::trB d w::l) h)
    (h1:t.fCode = w.fCode→∀ h',aQ (trB b t::trB d w::l) h'→K true h') (h0:t.fCode ≠ w.fCode→t.fErr = .nilIface→∀ h',aQ (trB b t::trB d w::l) h'→K false h')
    (h2:t.fCode ≠ w.fCode→∀ e,t.fErr = dC e→∀ h',aQ (trB b t::trB d w::l) h'→Rec (dC e) h') (hok:t.fErr = .nilIface∨∃ e,t.fErr = dC e):rP (dC d) true K Rec (dC b) h:=by
  unfold rP
  refine df rfl (eq_traps st (dv rfl ?_))
  refine fy (dC b,true) (fun K h=>by kernel_rfl) (df rfl ?_)
  refine cln_en (f:=sP) (vs:=[pv (some (b,0)),dC d]) (fun K h=>by kernel_rfl) ?_
  refine cT [] (rest:=l) (sp_Trap_Is b d t w) st rfl fun r h' s2=>?_
  obtain ⟨rfl,s3⟩:=bH.1 s2
  by_cases e:t.fCode = w.fCode
  · exact df (by simpa using e) (h1 e _ s3)
  · refine dv (by simpa using e) ?_
    unfold rQ
    refine fy (dC b,true) (fun K h=>by kernel_rfl) (df rfl ?_)
    refine cln_en (f:=mZ) (vs:=[pv (some (b,0))]) (fun K h=>by kernel_rfl) ?_
    refine bY (i:=0) (sp_Unwrap b t) rfl s3 fun r h' hr s4=>?_
    subst hr
    rcases hok with hn | ⟨x,hx⟩
    · rw [hn]
      refine fy true (en_00 _) (df rfl (h0 e hn _ ?_))
      simpa using s4
    · rw [hx]
      refine fy false (en_0 x _) (dv rfl (h2 e x hx _ ?_))
      simpa using s4
theorem sp_is1 (b d:Nat) (t w:ch) (hc:t.fCode = w.fCode) (hok:t.fErr = .nilIface∨∃ e,t.fErr = dC e):Sp Tryz.prog nC [dC b,dC d,.bool true] aG [trB b t,trB d w] (fun r=>pa_ (r = true) [trB b t,trB d w]):=by
  intro h st
  refine sim_errors_is _ _ _ ?_
  unfold wo
  refine ⟨fun s h=>s = dC b∧aQ [trB b t,trB d w] h,fun _ _=>0,⟨rfl,st⟩,?_⟩
  rintro _ h1 ⟨rfl,s1⟩
  exact is_step s1 (fun _ h' s2=>bh rfl s2) (fun e=>absurd hc e) (fun e=>absurd hc e) hok
theorem sp_is2 (b e d:Nat) (t u w:ch) (ht:t.fErr = dC e) (hu:u.fErr = .nilIface) (hc:t.fCode ≠ w.fCode) (hd:u.fCode ≠ w.fCode) :
    Sp Tryz.prog nC [dC b,dC d,.bool true] aG [trB b t,trB e u,trB d w] (fun r=>pa_ (r = false) [trB b t,trB e u,trB d w]):=by
  intro h st
  refine sim_errors_is _ _ _ ?_
  unfold wo
  refine ⟨fun s h=>(s = dC b∨s = dC e)∧aQ [trB b t,trB e u,trB d w] h,fun s _=>match s with | .iface _ (.pointer (some p))=>if p.block = b then 1 else 0 | _=>0,⟨.inl rfl,st⟩,?_⟩
  have hne:e ≠ b:=fun h=>(star_ne st) h.symm
  rintro _ h1 ⟨rfl | rfl,s1⟩
  · refine is_step (l:=[trB e u]) (bn [0,1] s1 rfl) (fun x=>absurd x hc) (fun _ x=>by rw [ht] at x; cases x) (fun _ x hx h' s2=>?_) (.inr ⟨e,ht⟩)
    rw [ht] at hx
    rw [← hx]
    exact ⟨⟨.inr rfl,bn [0,1] s2 rfl⟩,by show (if e = b then 1 else 0) < (if b = b then 1 else 0); rw [if_pos rfl,if_neg hne]; exact Nat.one_pos⟩
  · refine is_step (l:=[trB b t]) (bn [1,1] s1 rfl) (fun x=>absurd x hd) (fun _ _ h' s2=>bh rfl (bn [2,0] s2 rfl)) (fun _ x hx=>by rw [hu] at hx; cases hx) (.inl hu)
theorem sp_Is1 (b d:Nat) (t w:ch) (hc:t.fCode = w.fCode) (hok:t.fErr = .nilIface∨∃ e,t.fErr = dC e):Sp Tryz.prog nD [dC b,dC d] aG [trB b t,trB d w] (fun r=>pa_ (r = true) [trB b t,trB d w]):=by
  intro h st
  refine sim_errors_Is _ _ ?_
  unfold wq
  refine fy false (en_0 b _) (df rfl (fy false (en_0 d _) (dv rfl ?_)))
  refine ti (rtV bu) (fun K h=>x7 d K h) ?_
  refine ti true (fun K h=>x13 K h) ?_
  refine cT [] (rest:=[]) (sp_is1 b d t w hc hok) st rfl fun r h' s2=>?_
  obtain ⟨rfl,s3⟩:=bH.1 s2
  exact bh rfl s3
theorem sp_Is2 (b e d:Nat) (t u w:ch) (ht:t.fErr = dC e) (hu:u.fErr = .nilIface) (hc:t.fCode ≠ w.fCode) (hd:u.fCode ≠ w.fCode) :
    Sp Tryz.prog nD [dC b,dC d] aG [trB b t,trB e u,trB d w] (fun r=>pa_ (r = false) [trB b t,trB e u,trB d w]):=by
  intro h st
  refine sim_errors_Is _ _ ?_
  unfold wq
  refine fy false (en_0 b _) (df rfl (fy false (en_0 d _) (dv rfl ?_)))
  refine ti (rtV bu) (fun K h=>x7 d K h) ?_
  refine ti true (fun K h=>x13 K h) ?_
  refine cT [] (rest:=[]) (sp_is2 b e d t u w ht hu hc hd) st rfl fun r h' s2=>?_
  obtain ⟨rfl,s3⟩:=bH.1 s2
  exact bh rfl s3
theorem uj {α:Type} {A:α→As} {l:List As} {h:Hp} (s:aQ (ex A::l) h):∃ x,aQ (A x::l) h:=by
  obtain ⟨h1,h2,d,e,⟨x,a⟩,s2⟩:=s
  exact ⟨x,h1,h2,d,e,a,s2⟩
abbrev tr3:ch:=⟨3,-1,⟨0,0,0,0,0⟩,.nilIface⟩
abbrev tr4:ch:=⟨4,-1,⟨0,0,0,0,0⟩,.nilIface⟩
abbrev tr32 (e:Nat):ch:=⟨3,2,⟨1,2,0,0,0⟩,dC e⟩
theorem sp_begun1:Sp Tryz.prog ll [] aG [(etB ET EF)] (fun r=>pa_ (r = true) [(etB ET EF)]):=by
  intro h st
  refine wg ?_
  unfold pf
  refine cT [] (rest:=[(etB ET EF)]) (sp_Of 3 (by decide)) st rfl fun r h1 s1=>?_
  obtain ⟨e,x1⟩:=uj s1
  obtain ⟨rfl,y1⟩:=bH.1 x1
  refine cT [1,0] (rest:=[]) (sp_In 2 ⟨1,2,0,0,0⟩ e tr3) y1 rfl fun r h2 s2=>?_
  obtain ⟨b,x2⟩:=uj s2
  obtain ⟨rfl,y2⟩:=bH.1 x2
  refine bY (i:=1) (sp_First b) rfl y2 fun r h3 hr s3=>?_
  subst hr
  refine fy false (en_0 b _) (dv rfl (df rfl (cC ?_)))
  refine bB 2 s3 (i:=0) rfl rfl rfl (df rfl ?_)
  refine ld_s ⟨1,2,0,0,0⟩ s3 (i:=0) rfl (fun j v hj=>?_) (df rfl ?_)
  · rcases j with _ | _ | _ | _ | _ | j <;> first | exact hj | (simp [ao.C] at hj)
  refine bB 3 s3 (i:=0) rfl rfl rfl (df rfl ?_)
  refine cT [1,0] (rest:=[_]) (sp_Code b (tr32 e)) s3 rfl fun r h4 s4=>?_
  obtain ⟨rfl,y4⟩:=bH.1 s4
  refine df rfl ?_
  refine cT [] (rest:=[]) (sp_Depth2 b e (tr32 e) tr3 rfl rfl) y4 rfl fun r h5 s5=>?_
  obtain ⟨rfl,y5⟩:=bH.1 s5
  refine df rfl ?_
  refine cT [] (rest:=[_,_,_]) (sp_Of 3 (by decide)) y5 rfl fun r h6 s6=>?_
  obtain ⟨d,x6⟩:=uj s6
  obtain ⟨rfl,y6⟩:=bH.1 x6
  refine cT [2,0] (rest:=[_,_]) (sp_Is1 b d (tr32 e) tr3 rfl (.inr ⟨e,rfl⟩)) y6 rfl fun r h7 s7=>?_
  obtain ⟨rfl,y7⟩:=bH.1 s7
  refine df rfl ?_
  refine cT [] (rest:=[_,_,_,_]) (sp_Of 4 (by decide)) y7 rfl fun r h8 s8=>?_
  obtain ⟨f,x8⟩:=uj s8
  obtain ⟨rfl,y8⟩:=bH.1 x8
  refine cT [1,3,0] (rest:=[_,_]) (sp_Is2 b e f (tr32 e) tr3 tr4 rfl rfl (show (3:Int) ≠ 4 by decide) (show (3:Int) ≠ 4 by decide)) y8 rfl fun r h9 s9=>?_
  obtain ⟨rfl,y9⟩:=bH.1 s9
  refine df rfl ?_
  refine cln_en (f:=iR) (vs:=[pv (some (b,0))]) (fun K h=>by kernel_rfl) ?_
  refine cT [] (rest:=[_,_,_]) (sp_Error2 b e (tr32 e) tr3 rfl rfl rfl rfl) y9 rfl fun r h10 s10=>?_
  obtain ⟨rfl,y10⟩:=bH.1 s10
  refine fy true (fun K h=>by kernel_rfl) (df rfl ?_)
  refine rT sp_Of0 y10 fun r h11 hr s11=>?_
  subst hr
  refine fy true (en_00 _) ?_
  exact bh rfl (cj (l:=[_,_,_,_]) s11)
end Go.Proofs.YtniiiakkdoiaiaaGreatDoor
